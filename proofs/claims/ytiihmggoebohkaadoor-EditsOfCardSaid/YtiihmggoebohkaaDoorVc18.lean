/- Verification conditions by symbolic execution: a call, by the callee's contract. -/
import Derived.Test.YtiihmggoebohkaaDoorVc17
namespace Go.Proofs.YtiihmggoebohkaaDoor.Vc
open Go Go.RowKit

/-- Where a callee's chunk lies for its caller. -/
def kAll (k : List Kp) (n0 b c : Nat) : Option Kp := bif Nat.blt c n0 then kAt k c else some (.at (b + (c - n0)) 0)
def ren0 (k : List Kp) (n0 b : Nat) : SV → SV
  | .v x => .v x
  | .p c i o => match kAll k n0 b c with | some (.at d e) => .p d (i + e) o | _ => .u
  | .s c i n => match kAll k n0 b c with | some (.at d e) => .s d (i + e) n | _ => .u
  | .o c => match kAll k n0 b c with | some (.at d 0) => .o d | _ => .u
  | _ => .u
def renL0 (k : List Kp) (n0 b : Nat) : List SV → List SV
  | [] => []
  | x :: r => ren0 k n0 b x :: renL0 k n0 b r
def ren1 (k : List Kp) (n0 b : Nat) : SV → SV
  | .f g l => .f g (renL0 k n0 b l)
  | x => ren0 k n0 b x
def renL1 (k : List Kp) (n0 b : Nat) : List SV → List SV
  | [] => []
  | x :: r => ren1 k n0 b x :: renL1 k n0 b r
def ren2 (k : List Kp) (n0 b : Nat) : SV → SV
  | .a l => .a (renL1 k n0 b l)
  | x => ren1 k n0 b x
def renL2 (k : List Kp) (n0 b : Nat) : List SV → List SV
  | [] => []
  | x :: r => ren2 k n0 b x :: renL2 k n0 b r
def ren3 (k : List Kp) (n0 b : Nat) : SV → SV
  | .t l => .t (renL2 k n0 b l)
  | x => ren2 k n0 b x
def renC (k : List Kp) (n0 b : Nat) : Ch → Ch
  | .non => .non
  | .ro sz n f => .ro sz n fun i => renL1 k n0 b (f i)
  | .own e sz n f => .own e sz n fun i => renL1 k n0 b (f i)
  | .box t l => .box t (renL1 k n0 b l)
/-- A chunk that was handed over to be written: it is of its kind still, or nothing is known of it. -/
def renW (k : List Kp) (n0 b : Nat) (old new : Ch) : Ch :=
  match old with
  | .box .. => match new with
    | .box t l => .box t (renL1 k n0 b l)
    | _ => .non
  | .own .. => match new with
    | .own e sz n f => .own e sz n fun i => renL1 k n0 b (f i)
    | _ => .non
  | _ => .non
def newM (k : List Kp) (n0 b : Nat) (m' : Mem) : Nat → Nat → Nat → Mem → Mem
  | _, _, 0, r => r
  | c, d, n + 1, r => (d, renC k n0 b (mget m' c)) :: newM k n0 b m' (c + 1) (d + 1) n r
def wrM (k : List Kp) (n0 b : Nat) (m' : Mem) : Mem → Mem → Mem
  | [], r => r
  | (c, ch) :: q, r => match ch.wr with
    | true => (match kAt k c with | some (.at d _) => (d, renW k n0 b ch (mget m' c)) :: wrM k n0 b m' q r | _ => wrM k n0 b m' q r)
    | false => wrM k n0 b m' q r
/-- What is handed over to be written lies apart from all else that is handed over. -/
def otherK (c d : Nat) : Nat → List Kp → Bool
  | _, [] => true
  | i, .at d' _ :: r => (bif Nat.beq i c then true else bif Nat.beq d d' then false else true) && otherK c d (i + 1) r
  | i, .nul _ :: r => otherK c d (i + 1) r
  | i, .nil _ :: r => otherK c d (i + 1) r
def wrOk (k : List Kp) : Mem → Bool
  | [] => true
  | (c, ch) :: q => match ch.wr with
    | true => (match kAt k c with | some (.at d _) => otherK c d 0 k | _ => false) && wrOk k q
    | false => wrOk k q

section
variable {B B0 : Bs} {ρ ρ1 ρ' : List Loc} {m m' mem : Mem} {w w' : World} {k : List Kp} {n0 b : Nat}

/-- The caller's places tell the callee's. -/
def Fits (k : List Kp) (n0 b : Nat) (ρ1 ρ' : List Loc) : Prop := ∀ (c : Nat) (L : Loc), ρ1[c]? = some L → ∀ d e, kAll k n0 b c = some (.at d e) → ∃ L', ρ'[d]? = some L' ∧ L = L'.shift e

theorem ren0_sound (hf : Fits k n0 b ρ1 ρ') {x : SV} {v : Value} (hr : Rel ρ1 x v) : Rel ρ' (ren0 k n0 b x) v := by
  unfold ren0
  split
  · simpa only [Rel] using hr
  · split
    · rename_i d e hk
      obtain ⟨L, hL, rfl⟩ := rel_p hr
      obtain ⟨L', hL', rfl⟩ := hf _ _ hL d e hk
      simp only [Rel]
      refine ⟨L', hL', ?_⟩
      simp only [Loc.shift, Nat.add_mul]
      congr 3
      omega
    · simp only [Rel]
  · split
    · rename_i d e hk
      obtain ⟨L, A, q, hL, hv, hn, hq, hA⟩ := rel_s hr
      obtain ⟨L', hL', rfl⟩ := hf _ _ hL d e hk
      simp only [Rel]
      refine ⟨L', A, q, hL', hv, hn, hq, fun hp => ?_⟩
      rw [hA hp]
      simp only [Loc.shift, Nat.add_mul]
      congr 2
      omega
    · simp only [Rel]
  · split
    · rename_i d hk
      simp only [Rel] at hr ⊢
      obtain ⟨L, hL, h1, h2⟩ := hr
      obtain ⟨L', hL', rfl⟩ := hf _ _ hL d 0 hk
      rw [Loc.shift_zero] at h1
      exact ⟨L', hL', h1, h2⟩
    · simp only [Rel]
  · simp only [Rel]
theorem renL0_sound (hf : Fits k n0 b ρ1 ρ') : ∀ {x : List SV} {v : List Value}, RelL ρ1 x v → RelL ρ' (renL0 k n0 b x) v
  | [], _, hr => by simpa only [renL0, RelL] using hr
  | x :: r, _, hr => by
    simp only [RelL] at hr
    obtain ⟨u, ur, rfl, h1, h2⟩ := hr
    simp only [renL0, RelL]
    exact ⟨_, _, rfl, ren0_sound hf h1, renL0_sound hf h2⟩
theorem ren1_sound (hf : Fits k n0 b ρ1 ρ') {x : SV} {v : Value} (hr : Rel ρ1 x v) : Rel ρ' (ren1 k n0 b x) v := by
  unfold ren1
  split
  · obtain ⟨vs, hv, hl⟩ := rel_f hr
    simp only [Rel]
    exact ⟨vs, hv, renL0_sound hf hl⟩
  · exact ren0_sound hf hr
theorem renL1_sound (hf : Fits k n0 b ρ1 ρ') : ∀ {x : List SV} {v : List Value}, RelL ρ1 x v → RelL ρ' (renL1 k n0 b x) v
  | [], _, hr => by simpa only [renL1, RelL] using hr
  | x :: r, _, hr => by
    simp only [RelL] at hr
    obtain ⟨u, ur, rfl, h1, h2⟩ := hr
    simp only [renL1, RelL]
    exact ⟨_, _, rfl, ren1_sound hf h1, renL1_sound hf h2⟩
theorem ren2_sound (hf : Fits k n0 b ρ1 ρ') {x : SV} {v : Value} (hr : Rel ρ1 x v) : Rel ρ' (ren2 k n0 b x) v := by
  unfold ren2
  split
  · obtain ⟨vs, hv, hl, h1⟩ := rel_a hr
    simp only [Rel]
    exact ⟨vs, hv, renL1_sound hf hl, h1⟩
  · exact ren1_sound hf hr
theorem renL2_sound (hf : Fits k n0 b ρ1 ρ') : ∀ {x : List SV} {v : List Value}, RelL ρ1 x v → RelL ρ' (renL2 k n0 b x) v
  | [], _, hr => by simpa only [renL2, RelL] using hr
  | x :: r, _, hr => by
    simp only [RelL] at hr
    obtain ⟨u, ur, rfl, h1, h2⟩ := hr
    simp only [renL2, RelL]
    exact ⟨_, _, rfl, ren2_sound hf h1, renL2_sound hf h2⟩
theorem ren3_sound (hf : Fits k n0 b ρ1 ρ') {x : SV} {v : Value} (hr : Rel ρ1 x v) : Rel ρ' (ren3 k n0 b x) v := by
  unfold ren3
  split
  · obtain ⟨vs, hv, hl⟩ := rel_t hr
    simp only [Rel]
    exact ⟨vs, hv, renL2_sound hf hl⟩
  · exact ren2_sound hf hr

theorem newM_get (r : Mem) : ∀ (n c d x : Nat), mget (newM k n0 b m' c d n r) x = if d ≤ x ∧ x < d + n then renC k n0 b (mget m' (c + (x - d))) else mget r x
  | 0, c, d, x => by simp only [newM]; rw [if_neg (by omega)]
  | n + 1, c, d, x => by
    simp only [newM]
    rw [mget_cons]
    by_cases h : d = x
    · subst h; rw [if_pos rfl, if_pos (by omega)]; simp
    · rw [if_neg h, newM_get r n (c + 1) (d + 1) x]
      by_cases h2 : d + 1 ≤ x ∧ x < d + 1 + n
      · rw [if_pos h2, if_pos (by omega), show c + 1 + (x - (d + 1)) = c + (x - d) by omega]
      · rw [if_neg h2, if_neg (by omega)]
theorem wrM_get (r : Mem) (x : Nat) : ∀ (q : Mem), (∃ c ch e, (c, ch) ∈ q ∧ ch.wr = true ∧ kAt k c = some (.at x e) ∧ mget (wrM k n0 b m' q r) x = renW k n0 b ch (mget m' c)) ∨
    ((∀ c ch e, (c, ch) ∈ q → ch.wr = true → kAt k c ≠ some (.at x e)) ∧ mget (wrM k n0 b m' q r) x = mget r x)
  | [] => .inr ⟨fun _ _ _ h => by simp at h, rfl⟩
  | (c, ch) :: q => by
    have ih := wrM_get r x q
    have skip : (∀ e, ch.wr = true → kAt k c ≠ some (.at x e)) → mget (wrM k n0 b m' ((c, ch) :: q) r) x = mget (wrM k n0 b m' q r) x →
        (∃ c' ch' e, (c', ch') ∈ (c, ch) :: q ∧ ch'.wr = true ∧ kAt k c' = some (.at x e) ∧ mget (wrM k n0 b m' ((c, ch) :: q) r) x = renW k n0 b ch' (mget m' c')) ∨
        ((∀ c' ch' e, (c', ch') ∈ (c, ch) :: q → ch'.wr = true → kAt k c' ≠ some (.at x e)) ∧ mget (wrM k n0 b m' ((c, ch) :: q) r) x = mget r x) := by
      intro hne he
      rw [he]
      rcases ih with ⟨c', ch', e', h1, h2, h3, h4⟩ | ⟨h1, h2⟩
      · exact .inl ⟨c', ch', e', by simp [h1], h2, h3, h4⟩
      · refine .inr ⟨fun c' ch' e' hm hw => ?_, h2⟩
        rcases List.mem_cons.1 hm with he | hm
        · cases he; exact hne e' hw
        · exact h1 c' ch' e' hm hw
    cases hw : ch.wr with
    | false => exact skip (fun e h => by rw [hw] at h; cases h) (by simp only [wrM, hw])
    | true =>
      cases hk : kAt k c with
      | none => exact skip (fun e _ => by rw [hk]; simp) (by simp only [wrM, hw, hk])
      | some y =>
        cases y with
        | nul z => exact skip (fun e _ => by rw [hk]; simp) (by simp only [wrM, hw, hk])
        | nil z => exact skip (fun e _ => by rw [hk]; simp) (by simp only [wrM, hw, hk])
        | «at» d e =>
          by_cases hd : d = x
          · subst hd
            refine .inl ⟨c, ch, e, by simp, hw, hk, ?_⟩
            simp only [wrM, hw, hk]
            rw [mget_cons, if_pos rfl]
          · refine skip (fun e' _ => by rw [hk]; intro h; cases h; exact hd rfl) ?_
            simp only [wrM, hw, hk]
            rw [mget_cons, if_neg hd]

theorem otherK_at : ∀ (l : List Kp) (i c d : Nat), otherK c d i l = true → ∀ (c' : Nat) e', i + c' ≠ c → kAt l c' ≠ some (.at d e') := by
  intro l
  induction l with
  | nil => intro i c d _ c' e' _; simp [kAt]
  | cons y r ih =>
    intro i c d h c' e' hne
    cases y with
    | nul z =>
      simp only [otherK] at h
      cases c' with
      | zero => simp [kAt]
      | succ c' => simp only [kAt]; exact ih (i + 1) c d h c' e' (by omega)
    | nil z =>
      simp only [otherK] at h
      cases c' with
      | zero => simp [kAt]
      | succ c' => simp only [kAt]; exact ih (i + 1) c d h c' e' (by omega)
    | «at» d' e2 =>
      simp only [otherK, Bool.and_eq_true] at h
      cases c' with
      | zero =>
        simp only [kAt]
        intro he
        cases he
        have h1 := h.1
        have hb : Nat.beq i c = false := by
          cases e : Nat.beq i c with
          | false => rfl
          | true => exact absurd (Nat.eq_of_beq_eq_true e) (by omega)
        rw [hb, Nat.beq_refl] at h1
        cases h1
      | succ c' => simp only [kAt]; exact ih (i + 1) c d h.2 c' e' (by omega)
theorem wrOk_at : ∀ {q : Mem}, wrOk k q = true → ∀ {c ch}, (c, ch) ∈ q → ch.wr = true → ∃ d e, kAt k c = some (.at d e) ∧ ∀ c' e', c' ≠ c → kAt k c' ≠ some (.at d e')
  | [], _, _, _, h, _ => by simp at h
  | (c0, ch0) :: q, h, c, ch, hm, hw => by
    simp only [wrOk] at h
    rcases List.mem_cons.1 hm with he | hm
    · cases he
      rw [hw] at h
      simp only [Bool.and_eq_true] at h
      have h1 := h.1
      split at h1
      · rename_i d e hk
        exact ⟨d, e, hk, fun c' e' hne => otherK_at k 0 _ d h1 c' e' (by omega)⟩
      · cases h1
    · cases hw0 : ch0.wr with
      | true => rw [hw0] at h; simp only [Bool.and_eq_true] at h; exact wrOk_at h.2 hm hw
      | false => rw [hw0] at h; exact wrOk_at h hm hw
theorem mget_mem : ∀ {q : Mem} {c : Nat} {ch : Ch}, mget q c = ch → ch ≠ .non → (c, ch) ∈ q
  | [], c, ch, h, hne => absurd h.symm hne
  | (d, x) :: q, c, ch, h, hne => by
    rw [mget_cons] at h
    split at h
    · rename_i e; subst e; subst h; simp
    · simp [mget_mem h hne]
theorem simM_mem {k : List Kp} {m : Mem} : ∀ {q : Mem}, simM k m q → ∀ {c ch}, (c, ch) ∈ q → ∃ y, kAt k c = some y ∧ simC k m ch y
  | [], _, _, _, h => by simp at h
  | (d, x) :: q, h, c, ch, hm => by
    obtain ⟨h1, h2⟩ := h
    rcases List.mem_cons.1 hm with he | hm
    · cases he
      split at h1
      · rename_i y hk; exact ⟨y, hk, h1⟩
      · exact h1.elim
    · exact simM_mem h2 hm

def calleeX (ρ : List Loc) (k : List Kp) (mem : Mem) (x : Nat) : Prop := ∃ c ch, (c, ch) ∈ mem ∧ ch.wr = true ∧ Occ (kLoc ρ k) c ch x

/-- What the callee begins with. -/
theorem enter_msat (h : MSat B ρ m w) (hsim : simM k m mem) (hwr : wrOk k mem = true) : MSat ⟨w, calleeX ρ k mem, kLoc ρ k, B.glob⟩ (kLoc ρ k) mem w := by
  refine ⟨fun c => ?_, fun c c' x hne hw o o' => ?_, ⟨rfl, rfl, rfl, Nat.le_refl _, fun _ _ _ => rfl⟩, Ext.refl _, fun g v hg => ⟨?_, ?_, h.frm.glb h.glb hg⟩, fun c x hc o => ?_⟩
  · rcases simM_get hsim c with hn | ⟨y, hk, hs⟩
    · rw [hn]; trivial
    · obtain ⟨h1, _, _⟩ := simC_sound h.ch hk hs
      cases hch : mget mem c with
      | non => trivial
      | ro sz n f => rw [hch] at h1; exact h1
      | own e sz n f =>
        rw [hch] at h1
        obtain ⟨L, vs, k1, k2, k3, k4, k5, k6, k7⟩ := h1
        exact ⟨L, vs, k1, k2, k3, k4, fun b hb => ⟨(k5 b hb).1, .inr ⟨c, _, mget_mem hch (by simp), rfl, L, k1, hb⟩⟩, k6, k7⟩
      | box t l =>
        rw [hch] at h1
        obtain ⟨L, vs, k1, k2, k3, k4, k5, k6, _⟩ := h1
        exact ⟨L, vs, k1, k2, k3, k4, k5, k6, .inr ⟨c, _, mget_mem hch (by simp), rfl, L, k1, rfl⟩⟩
  · rcases simM_get hsim c with hn | ⟨y, hk, hs⟩
    · rw [hn] at hw; cases hw
    · rcases simM_get hsim c' with hn' | ⟨y', hk', hs'⟩
      · rw [hn'] at o'; exact o'.elim
      · obtain ⟨_, q2, q3⟩ := simC_sound h.ch hk hs
        obtain ⟨_, r2, _⟩ := simC_sound h.ch hk' hs'
        have od := q2 x o
        obtain ⟨d, e, rfl, hwd⟩ := (q3 hw).resolve_right (by rintro ⟨z, rfl⟩; exact od)
        have od' := r2 x o'
        have hne0 : mget mem c ≠ .non := fun e => by rw [e] at hw; cases hw
        obtain ⟨d2, e2, hk2, hoth⟩ := wrOk_at hwr (mget_mem rfl hne0) hw
        rw [hk] at hk2; cases hk2
        cases y' with
        | nul z => exact od'.elim
        | nil z => exact od'.elim
        | «at» d' e' =>
          have hdd : d ≠ d' := fun e => by subst e; exact hoth c' e' (Ne.symm hne) hk'
          exact h.sep d d' x hdd hwd od od'
  · exact Nat.lt_of_lt_of_le (h.glb g v hg).1 h.frm.size
  · rintro ⟨c, ch, hm, hw, o⟩
    obtain ⟨y, hk, hs⟩ := simM_mem hsim hm
    obtain ⟨h1, h2, h3⟩ := simC_sound h.ch hk hs
    have hmay : B.May g := by
      cases ch with
      | non => cases hw
      | ro sz n f => cases hw
      | own e sz n f =>
        obtain ⟨L, vs, j1, _, _, _, j5, _⟩ := h1
        obtain ⟨L2, j8, j9⟩ := o
        rw [j1] at j8; cases j8
        exact (j5 g j9).2
      | box t l =>
        obtain ⟨L, vs, j1, _, _, _, _, _, j7⟩ := h1
        obtain ⟨L2, j8, j9⟩ := o
        rw [j1] at j8; cases j8
        rw [j9] at j7
        exact j7
    obtain ⟨k1, k2, _⟩ := h.glb g v hg
    rcases hmay with j7 | j7
    · omega
    · exact k2 j7
  · rcases simM_get hsim c with hn | ⟨y, hk, hs⟩
    · rw [hn] at o; exact o.elim
    · rw [kAt_eq] at hk
      have hlt : c < k.length := (List.getElem?_eq_some_iff.1 hk).1
      simp only [kLoc, List.length_map] at hc
      omega
end
end Go.Proofs.YtiihmggoebohkaaDoor.Vc
