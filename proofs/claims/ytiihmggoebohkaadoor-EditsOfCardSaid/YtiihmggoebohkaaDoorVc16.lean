/- Verification conditions by symbolic execution: loops. -/
import Derived.Test.YtiihmggoebohkaaDoorVc15
namespace Go.Proofs.YtiihmggoebohkaaDoor.Vc
open Go Go.RowKit

def idFrom : Nat → Nat → List Kp → List Kp
  | _, 0, r => r
  | i, n + 1, r => .at i 0 :: idFrom (i + 1) n r
def kps (n0 : Nat) (new : List Kp) : List Kp := idFrom 0 n0 new
def notIn (c : Nat) : List Kp → Bool
  | [] => true
  | .at d _ :: r => bif Nat.beq c d then false else notIn c r
  | .nul _ :: r => notIn c r
  | .nil _ :: r => notIn c r
def newOk (n0 nx : Nat) (f : Nat → Bool) : List Kp → Bool
  | [] => true
  | .at c e :: r => (Nat.ble n0 c || f c) && Nat.blt c nx && Nat.beq e 0 && notIn c r && newOk n0 nx f r
  | .nul _ :: r => newOk n0 nx f r
  | .nil _ :: r => newOk n0 nx f r
/-- A chunk that was handed in to be written, and is known no more under its old number, may go on under another one. -/
def frees (m m' : Mem) (c : Nat) : Bool := (match mget m' c with | .non => true | _ => false) && (mget m c).wr
def llen : List Kp → Nat
  | [] => 0
  | _ :: r => llen r + 1
theorem llen_eq : ∀ l : List Kp, llen l = l.length
  | [] => rfl
  | _ :: r => by simp [llen, llen_eq r]

theorem idFrom_get : ∀ (n i : Nat) (r : List Kp) (j : Nat), (idFrom i n r)[j]? = if j < n then some (.at (i + j) 0) else r[j - n]?
  | 0, i, r, j => by simp [idFrom]
  | n + 1, i, r, 0 => by simp [idFrom]
  | n + 1, i, r, j + 1 => by
    simp only [idFrom, List.getElem?_cons_succ, idFrom_get n]
    simp only [Nat.add_lt_add_iff_right, Nat.add_sub_add_right]
    split
    · congr 2; omega
    · rfl
theorem kps_get (n0 : Nat) (new : List Kp) (j : Nat) : (kps n0 new)[j]? = if j < n0 then some (.at j 0) else new[j - n0]? := by
  rw [kps, idFrom_get]; simp
theorem notIn_ne : ∀ {c : Nat} {l : List Kp}, notIn c l = true → ∀ d e, Kp.at d e ∈ l → c ≠ d
  | c, [], _, d, e, hd => by simp at hd
  | c, .at e0 e1 :: r, h, d, e, hd => by
    simp only [notIn] at h
    cases hb : Nat.beq c e0 with
    | true => rw [hb] at h; cases h
    | false =>
      rw [hb] at h
      rcases List.mem_cons.1 hd with he | hd
      · cases he; intro e'; subst e'; rw [Nat.beq_refl] at hb; cases hb
      · exact notIn_ne h d e hd
  | c, .nul _ :: r, h, d, e, hd => notIn_ne (l := r) h d e (by simpa using hd)
  | c, .nil _ :: r, h, d, e, hd => notIn_ne (l := r) h d e (by simpa using hd)
theorem newOk_get {n0 nx : Nat} {f : Nat → Bool} : ∀ {l : List Kp}, newOk n0 nx f l = true → (∀ (i c e : Nat), l[i]? = some (.at c e) → e = 0 ∧ (n0 ≤ c ∨ f c = true) ∧ c < nx) ∧ (∀ (i j c e e' : Nat), l[i]? = some (.at c e) → l[j]? = some (.at c e') → i = j)
  | [], _ => ⟨fun i c e h => by simp at h, fun i j c e e' h => by simp at h⟩
  | .nul z :: r, h => by
    obtain ⟨k1, k2⟩ := newOk_get (l := r) h
    refine ⟨fun i c e hc => ?_, fun i j c e e' hi hj => ?_⟩
    · cases i with
      | zero => simp at hc
      | succ i => exact k1 i c e (by simpa using hc)
    · cases i with
      | zero => simp at hi
      | succ i =>
        cases j with
        | zero => simp at hj
        | succ j => rw [k2 i j c e e' (by simpa using hi) (by simpa using hj)]
  | .nil z :: r, h => by
    obtain ⟨k1, k2⟩ := newOk_get (l := r) h
    refine ⟨fun i c e hc => ?_, fun i j c e e' hi hj => ?_⟩
    · cases i with
      | zero => simp at hc
      | succ i => exact k1 i c e (by simpa using hc)
    · cases i with
      | zero => simp at hi
      | succ i =>
        cases j with
        | zero => simp at hj
        | succ j => rw [k2 i j c e e' (by simpa using hi) (by simpa using hj)]
  | .at a b :: r, h => by
    simp only [newOk, Bool.and_eq_true] at h
    obtain ⟨⟨⟨⟨h1, h2⟩, h5⟩, h3⟩, h4⟩ := h
    obtain ⟨k1, k2⟩ := newOk_get h4
    have hn := notIn_ne h3
    refine ⟨fun i c e hc => ?_, fun i j c e e' hi hj => ?_⟩
    · cases i with
      | zero => simp at hc; obtain ⟨rfl, rfl⟩ := hc; exact ⟨Nat.eq_of_beq_eq_true h5, (Bool.or_eq_true _ _ ▸ h1).imp Nat.le_of_ble_eq_true (fun h => h), blt_lt h2⟩
      | succ i => exact k1 i c e (by simpa using hc)
    · cases i with
      | zero =>
        cases j with
        | zero => rfl
        | succ j =>
          simp at hi hj
          obtain ⟨rfl, rfl⟩ := hi
          exact absurd rfl (hn a e' (List.mem_of_getElem? hj))
      | succ i =>
        cases j with
        | zero =>
          simp at hi hj
          obtain ⟨rfl, rfl⟩ := hj
          exact absurd rfl (hn a e (List.mem_of_getElem? hi))
        | succ j => rw [k2 i j c e e' (by simpa using hi) (by simpa using hj)]

/-- A state entails another one, whose chunks are the first n0 and 'new'. -/
structure Sub (n0 : Nat) (new : List Kp) (s s' : St) : Prop where
  ok : newOk n0 s.nx (frees s.mem s'.mem) new = true
  nx : s'.nx = n0 + llen new
  fr : simF (kps n0 new) s.mem s.fr s'.fr
  mem : simM (kps n0 new) s.mem s'.mem

section
variable {Γ : Cx} {B : Bs} {ρ : List Loc} {s : St} {a : Act} {w : World} {m : Mem}

theorem simM_get {k : List Kp} {m : Mem} : ∀ {m' : Mem}, simM k m m' → ∀ c, mget m' c = .non ∨ ∃ y, kAt k c = some y ∧ simC k m (mget m' c) y
  | [], _, c => .inl rfl
  | (d, ch) :: r, h, c => by
    obtain ⟨h1, h2⟩ := h
    rw [mget_cons]
    split
    · rename_i e; subst e
      split at h1
      · rename_i y hk; exact .inr ⟨y, hk, h1⟩
      · exact h1.elim
    · exact simM_get h2 c

theorem ChSat.may {c : Nat} {ch : Ch} {b : Nat} (h : ChSat B ρ w c ch) (hw : ch.wr = true) (o : Occ ρ c ch b) : B.May b := by
  cases ch with
  | non => exact o.elim
  | ro sz n f => cases hw
  | own e sz n f =>
    obtain ⟨L, vs, h1, h2, h3, h4, h5, h6, h7⟩ := h
    obtain ⟨L', h1', h2'⟩ := o
    rw [h1] at h1'; cases h1'
    exact (h5 b h2').2
  | box t l =>
    obtain ⟨L, vs, h1, h2, h3, h4, h5, h6, h7⟩ := h
    obtain ⟨L', h1', h2'⟩ := o
    rw [h1] at h1'; cases h1'
    subst h2'
    exact h7

theorem keep_msat {n0 : Nat} {new : List Kp} {m' : Mem} (h : MSat B ρ m w) (hn0 : B.r0.length = n0) (hok : newOk n0 ρ.length (frees m m') new = true) (hsim : simM (kps n0 new) m m') :
    MSat B (kLoc ρ (kps n0 new)) m' w := by
  obtain ⟨o1, o2⟩ := newOk_get hok
  have kat : ∀ c d e, kAt (kps n0 new) c = some (.at d e) → e = 0 ∧ (c < n0 → d = c) ∧ (n0 ≤ c → (n0 ≤ d ∨ frees m m' d = true) ∧ new[c - n0]? = some (.at d 0)) := by
    intro c d e hy
    rw [kAt_eq, kps_get] at hy
    split at hy
    · rename_i hc
      cases hy
      exact ⟨rfl, fun _ => rfl, fun h => absurd h (by omega)⟩
    · rename_i hc
      obtain ⟨q1, q2, q3⟩ := o1 _ _ _ hy
      subst q1
      exact ⟨rfl, fun h => absurd h hc, fun _ => ⟨q2, hy⟩⟩
  have fre : ∀ d, frees m m' d = true → mget m' d = .non ∧ (mget m d).wr = true := by
    intro d h
    simp only [frees, Bool.and_eq_true] at h
    refine ⟨?_, h.2⟩
    have h1 := h.1
    split at h1
    · rename_i e; exact e
    · cases h1
  have inj : ∀ c c' d, mget m' c ≠ .non → mget m' c' ≠ .non → kAt (kps n0 new) c = some (.at d 0) → kAt (kps n0 new) c' = some (.at d 0) → c = c' := by
    intro c c' d n1 n2 h1 h2
    obtain ⟨_, l1, g1⟩ := kat c _ _ h1
    obtain ⟨_, l2, g2⟩ := kat c' _ _ h2
    rcases Nat.lt_or_ge c n0 with hc | hc
    · rcases Nat.lt_or_ge c' n0 with hc' | hc'
      · rw [← l1 hc, ← l2 hc']
      · have e := l1 hc
        rcases (g2 hc').1 with h | h
        · omega
        · subst e; exact absurd (fre _ h).1 n1
    · rcases Nat.lt_or_ge c' n0 with hc' | hc'
      · have e := l2 hc'
        rcases (g1 hc).1 with h | h
        · omega
        · subst e; exact absurd (fre _ h).1 n2
      · have := o2 _ _ _ _ _ (g1 hc).2 (g2 hc').2
        omega
  have occ : ∀ c b, Occ (kLoc ρ (kps n0 new)) c (mget m' c) b → ∃ d, kAt (kps n0 new) c = some (.at d 0) ∧ Occ ρ d (mget m d) b := by
    intro c b o
    rcases simM_get hsim c with hn | ⟨y, hk, hs⟩
    · rw [hn] at o; exact o.elim
    · have od := (simC_sound h.ch hk hs).2.1 b o
      cases y with
      | nul z => exact od.elim
      | nil z => exact od.elim
      | «at» d e =>
        obtain ⟨rfl, _⟩ := kat c d e hk
        exact ⟨d, hk, od⟩
  refine ⟨fun c => ?_, fun c c' b hne hw o o' => ?_, h.frm, fun c L hL => ?_, h.glb, fun c b hc o => ?_⟩
  · rcases simM_get hsim c with hn | ⟨y, hk, hs⟩
    · rw [hn]; trivial
    · exact (simC_sound h.ch hk hs).1
  · obtain ⟨d, hk, od⟩ := occ c b o
    obtain ⟨d', hk', od'⟩ := occ c' b o'
    have hdd : d ≠ d' := fun e => by subst e; exact hne (inj _ _ _ (fun e => by rw [e] at o; exact o.elim) (fun e => by rw [e] at o'; exact o'.elim) hk hk')
    have hwd : (mget m d).wr = true := by
      rcases simM_get hsim c with hn | ⟨y, hk2, hs⟩
      · rw [hn] at hw; cases hw
      · rw [hk] at hk2; cases hk2
        rcases (simC_sound h.ch hk hs).2.2 hw with ⟨d2, e2, he, hw2⟩ | ⟨z, he⟩
        · cases he; exact hw2
        · cases he
    exact h.sep d d' b hdd hwd od od'
  · have hc : c < n0 := by
      have := (List.getElem?_eq_some_iff.1 hL).1; omega
    have hk : kAt (kps n0 new) c = some (.at c 0) := by rw [kAt_eq, kps_get, if_pos hc]
    rw [kLoc_at hk (h.ext c L hL), Loc.shift_zero]
  · obtain ⟨d, hk, od⟩ := occ c b o
    obtain ⟨_, _, g1⟩ := kat c _ _ hk
    rcases (g1 (by omega)).1 with h1 | h1
    · exact h.fresh d b (by omega) od
    · exact (h.ch d).may (fre _ h1).2 od

theorem kLoc_len (ρ : List Loc) (k : List Kp) : (kLoc ρ k).length = k.length := by simp [kLoc]
theorem kps_len (n0 : Nat) (new : List Kp) : (kps n0 new).length = n0 + new.length := by
  have h1 : ∀ (n i : Nat) (r : List Kp), (idFrom i n r).length = n + r.length := by
    intro n
    induction n with
    | zero => intro i r; simp [idFrom]
    | succ n ih => intro i r; simp only [idFrom, List.length_cons, ih]; omega
  rw [kps, h1]

theorem Sub.sound (ok : Γ.Ok) {new : List Kp} {s' : St} (h : Sub Γ.n0 new s s') (H : Holds Γ.B Γ.N ρ s a w) : ∃ ρ', Holds Γ.B Γ.N ρ' s' a w := by
  refine ⟨kLoc ρ (kps Γ.n0 new), ?_, simF_sound H.mem.ch H.fr _ h.fr, H.size, H.dfr, keep_msat H.mem ok.len (by rw [H.nx]; exact h.ok) h.mem⟩
  rw [kLoc_len, kps_len, h.nx, llen_eq]

/-- A LOOP: an invariant, a measure. -/
theorem loop_rule {α : Type} (I : α → St) (C : α → Prop) (μ : α → Nat) (x : α) (new : List Kp) {c : Code} {s : St} {E : Nat → St → Prop} {R : St → Prop} (h0 : C x) (hs : Sub Γ.n0 new s (I x))
    (round : ∀ x, C x → vcCode Γ c (I x) (fun s' => ∃ y new, C y ∧ μ y < μ x ∧ Sub Γ.n0 new s' (I y)) E R) : LoopP Γ c s E R := by
  refine ⟨fun ok ρ a w H => ?_⟩
  have key : ∀ n x, μ x = n → C x → ∀ ρ a w, Holds Γ.B Γ.N ρ (I x) a w → ∀ (b : Frame) (k : List Item) (cs : List Frame),
      ∃ e a' w', Post Γ (fun _ => False) E R e a' w' ∧ Arrives Γ.P (lone (b.at a (.code c :: .inLoop c :: k)) cs w) b k cs e a' w' := by
    intro n
    induction n using Nat.strongRecOn with
    | _ n ih =>
      intro x hn hC ρ a w H b k cs
      obtain ⟨e, a₁, w₁, hq, harr⟩ := vcCode_sound ok c (I x) _ E R ρ a w (round x hC) H b (.inLoop c :: k) cs
      cases e with
      | normal =>
        obtain ⟨s', ρ', ⟨y, new, hCy, hlt, hsub⟩, H'⟩ := hq
        obtain ⟨ρ'', H''⟩ := hsub.sound ok H'
        obtain ⟨e₂, a₂, w₂, hq₂, harr₂⟩ := ih (μ y) (hn ▸ hlt) y rfl hCy ρ'' a₁ w₁ H'' b k cs
        exact ⟨e₂, a₂, w₂, hq₂, .of_steps (Steps.trans harr (.one step_inLoop)) harr₂⟩
      | exit id => exact ⟨.exit id, a₁, w₁, hq, .pass (x := .inLoop c) rfl (fun _ _ => .inl (by simp)) harr⟩
      | goto l => exact hq.elim
      | ret => exact ⟨.ret, a₁, w₁, hq, .pass (x := .inLoop c) rfl (fun _ _ => .inl (by simp)) harr⟩
      | panic ch => exact hq.elim
      | outgrown => exact hq.elim
  obtain ⟨ρ', H'⟩ := hs.sound ok H
  intro b k cs
  obtain ⟨e, a', w', hq, harr⟩ := key _ x rfl h0 ρ' a w H' b k cs
  exact ⟨e, a', w', hq, .of_steps (.one step_loop) harr⟩
end
end Go.Proofs.YtiihmggoebohkaaDoor.Vc
