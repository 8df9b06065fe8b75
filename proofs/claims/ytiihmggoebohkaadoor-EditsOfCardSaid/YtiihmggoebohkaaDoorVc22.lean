/- Verification conditions by symbolic execution: regions whose order is open: the rule. -/
import Derived.Test.YtiihmggoebohkaaDoorVc21
namespace Go.Proofs.YtiihmggoebohkaaDoor.Vc
open Go Go.RowKit

def opAt : List Oper → Nat → Option Oper
  | [], _ => none
  | x :: _, 0 => some x
  | _ :: r, n + 1 => opAt r n
theorem opAt_eq : ∀ (l : List Oper) (n : Nat), opAt l n = l[n]?
  | [], n => by simp [opAt]
  | x :: r, 0 => by simp [opAt]
  | x :: r, n + 1 => by simp [opAt, opAt_eq r n]
def vcMix (Γ : Cx) (m0 : Mem) (all : List Oper) : List (Nat × Bool) → St → (St → Prop) → Prop
  | [], s, K => K s
  | (k, e) :: r, s, K => match opAt all k with
    | none => False
    | some o => match e with
      | true => vcG all o s (fun s => vcEarly Γ.tab m0 s o fun x => put Γ.N s o.dst x fun s => vcMix Γ m0 all r s K) (fun s => put Γ.N s o.dst (.v (.tuple #[])) fun s => vcMix Γ m0 all r s K)
      | false => vcG all o s (fun s => vcOp Γ s o fun s => vcMix Γ m0 all r s K) (fun s => put Γ.N s o.dst (.v (.tuple #[])) fun s => vcMix Γ m0 all r s K)

theorem vcMix_sound {Γ : Cx} (ht : Tab.ok Γ.P Γ.tab) {m0 : Mem} (hx : Γ.B.Rx m0) {ops : Array Oper} {K : St → Prop} {Q : Exit → Act → World → Prop} (hK : ∀ s ρ a w, K s → Holds Γ.B Γ.N ρ s a w → Q .normal a w) :
    ∀ (l : List (Nat × Bool)) (s : St) (ρ : List Loc) (a : Act) (w : World), vcMix Γ m0 ops.toList l s K → Holds Γ.B Γ.N ρ s a w → wpMix Γ.P ops Q (Frm Γ.B) l a w
  | [], s, ρ, a, w, h, H => hK s ρ a w h H
  | (k, e) :: r, s, ρ, a, w, h, H => by
    simp only [vcMix] at h
    split at h
    · exact h.elim
    · rename_i o ho
      rw [opAt_eq] at ho
      have ho' : ops[k]? = some o := by simpa using ho
      cases e with
      | true =>
        simp only at h
        simp only [wpMix]
        rcases vcG_sound H h with ⟨hw, s', hk, H'⟩ | ⟨hw, s', hk, H'⟩
        · obtain ⟨v, x, hr, hx', hp⟩ := vcEarly_sound ht H' hx hk
          obtain ⟨s'', hk', H'', _, _⟩ := put_sound H' hx' hp
          exact ⟨o, v, ho', .inl ⟨hw, hr⟩, vcMix_sound ht hx hK r s'' ρ _ w hk' H''⟩
        · obtain ⟨s'', hk', H'', _, _⟩ := put_sound H' (v := undef) (by simp only [Rel]; rfl) hk
          exact ⟨o, undef, ho', .inr ⟨hw, rfl⟩, vcMix_sound ht hx hK r s'' ρ _ w hk' H''⟩
      | false =>
        simp only at h
        simp only [wpMix]
        unfold wpOpI Go.wpOp
        simp only [ho']
        rcases vcG_sound H h with ⟨hw, s', hk, H'⟩ | ⟨hw, s', hk, H'⟩
        · rw [if_pos hw]
          refine .inl (Oper.wp_mono (fun a' w' hh => ?_) (vcOp_sound ht H' hk))
          obtain ⟨s'', ρ', hk', H''⟩ := hh
          exact ⟨H''.mem.frm, vcMix_sound ht hx hK r s'' ρ' a' w' hk' H''⟩
        · rw [if_neg (by rw [hw]; simp)]
          obtain ⟨s'', hk', H'', _, _⟩ := put_sound H' (v := undef) (by simp only [Rel]; rfl) hk
          exact ⟨H''.mem.frm, vcMix_sound ht hx hK r s'' ρ _ w hk' H''⟩

/-- Variables that nobody writes for a while. -/
def roM : List Nat → Mem → Mem
  | [], m => m
  | c :: r, m => match mget m c with
    | .box _ l => (c, .ro l.length 1 fun _ => l) :: roM r m
    | _ => roM r m
def backM : List Nat → Mem → Mem → Mem
  | [], _, m => m
  | c :: r, old, m => match mget old c with
    | .box t l => (c, .box t l) :: backM r old m
    | _ => backM r old m
def roC (b : Bool) (x : Ch) : Ch := match x with
  | .box t l => match b with | true => .ro l.length 1 fun _ => l | false => .box t l
  | y => y
theorem inL_cons (d c : Nat) (r : List Nat) : inL d (c :: r) = (if d = c then true else inL d r) := by
  simp only [inL]
  by_cases h : d = c
  · subst h; simp [Nat.beq_refl]
  · rw [if_neg h]
    cases e : Nat.beq d c with
    | false => rfl
    | true => exact absurd (Nat.eq_of_beq_eq_true e) h
theorem mem_inL {c : Nat} : ∀ {bs : List Nat}, c ∈ bs → inL c bs = true
  | [], h => by simp at h
  | x :: r, h => by
    rw [inL_cons]
    by_cases hx : c = x
    · rw [if_pos hx]
    · rw [if_neg hx]; exact mem_inL (by simpa [hx] using h)
theorem roM_get (m : Mem) (d : Nat) : ∀ bs : List Nat, mget (roM bs m) d = roC (inL d bs) (mget m d)
  | [] => by simp only [roM, inL, roC]; cases mget m d <;> rfl
  | c :: r => by
    have ih := roM_get m d r
    rw [inL_cons]
    simp only [roM]
    by_cases h : d = c
    · subst h
      rw [if_pos rfl]
      cases hm : mget m d with
      | box t l => simp only; rw [mget_cons, if_pos rfl]; rfl
      | non => simp only; rw [ih, hm]; rfl
      | ro sz n f => simp only; rw [ih, hm]; rfl
      | own e sz n f => simp only; rw [ih, hm]; rfl
    · rw [if_neg h]
      cases hm : mget m c with
      | box t l => simp only; rw [mget_cons, if_neg (fun e => h e.symm)]; exact ih
      | non => exact ih
      | ro sz n f => exact ih
      | own e sz n f => exact ih
theorem backM_get (old m : Mem) (d : Nat) : ∀ bs : List Nat, mget (backM bs old m) d = (match mget old d with | .box t l => if inL d bs then .box t l else mget m d | _ => mget m d)
  | [] => by simp only [backM, inL]; cases mget old d <;> rfl
  | c :: r => by
    have ih := backM_get old m d r
    rw [inL_cons]
    simp only [backM]
    by_cases h : d = c
    · subst h
      rw [if_pos rfl]
      cases hm : mget old d with
      | box t l => simp only; rw [mget_cons, if_pos rfl]; rfl
      | non => rw [hm] at ih; simpa using ih
      | ro sz n f => rw [hm] at ih; simpa using ih
      | own e sz n f => rw [hm] at ih; simpa using ih
    · rw [if_neg h]
      cases hm : mget old c with
      | box t l => simp only; rw [mget_cons, if_neg (fun e => h e.symm)]; exact ih
      | non => exact ih
      | ro sz n f => exact ih
      | own e sz n f => exact ih

def allBox (m : Mem) (nx : Nat) : List Nat → Bool
  | [] => true
  | c :: r => Nat.blt c nx && (match mget m c with | .box .. => true | _ => false) && allBox m nx r
theorem allBox_mem {m : Mem} {nx : Nat} : ∀ {bs : List Nat}, allBox m nx bs = true → ∀ c ∈ bs, c < nx ∧ ∃ t l, mget m c = .box t l
  | [], _, c, hc => by simp at hc
  | d :: r, h, c, hc => by
    simp only [allBox, Bool.and_eq_true] at h
    rcases List.mem_cons.1 hc with rfl | hc
    · refine ⟨blt_lt h.1.1, ?_⟩
      have h2 := h.1.2
      split at h2
      · rename_i t l hm; exact ⟨t, l, hm⟩
      · cases h2
    · exact allBox_mem h.2 c hc
def kindP (old new : Ch) : Prop := match new with
  | .non => True
  | .ro _ n _ => match old with | .ro _ n' _ => n = n' | _ => False
  | .own .. => match old with | .own .. => True | _ => False
  | .box .. => match old with | .box .. => True | _ => False
def backOk (bs : List Nat) (old new : Mem) : Nat → Prop
  | 0 => True
  | c + 1 => (match inL c bs with | true => True | false => kindP (mget old c) (mget new c)) ∧ backOk bs old new c
theorem backOk_get {bs : List Nat} {old new : Mem} : ∀ {n : Nat}, backOk bs old new n → ∀ c, c < n → inL c bs = false → kindP (mget old c) (mget new c)
  | 0, _, c, hc, _ => by omega
  | n + 1, h, c, hc, hb => by
    obtain ⟨h1, h2⟩ := h
    by_cases e : c = n
    · subst e; rw [hb] at h1; exact h1
    · exact backOk_get h2 c (by omega) hb

theorem kindP_occ {ρ ρ' : List Loc} (e : Ext ρ ρ') {c b : Nat} {old new : Ch} (hc : c < ρ.length) (hk : kindP old new) (o : Occ ρ' c new b) : Occ ρ c old b ∧ (new.wr = true → old.wr = true) := by
  obtain ⟨L, hL⟩ : ∃ L, ρ[c]? = some L := ⟨_, List.getElem?_eq_getElem hc⟩
  have hL' := e c L hL
  cases new with
  | non => exact o.elim
  | ro sz n f =>
    cases old with
    | ro sz' n' f' =>
      have : n = n' := hk
      subst this
      obtain ⟨hn, L2, h2, hb⟩ := o
      rw [hL'] at h2; cases h2
      exact ⟨⟨hn, L, hL, hb⟩, fun h => by cases h⟩
    | _ => exact hk.elim
  | own t sz n f =>
    cases old with
    | own t' sz' n' f' =>
      obtain ⟨L2, h2, hb⟩ := o
      rw [hL'] at h2; cases h2
      exact ⟨⟨L, hL, hb⟩, fun _ => rfl⟩
    | _ => exact hk.elim
  | box t l =>
    cases old with
    | box t' l' =>
      obtain ⟨L2, h2, hb⟩ := o
      rw [hL'] at h2; cases h2
      exact ⟨⟨L, hL, hb⟩, fun _ => rfl⟩
    | _ => exact hk.elim

theorem roC_wr {b : Bool} {x : Ch} (h : (roC b x).wr = true) : roC b x = x ∧ x.wr = true := by
  cases x with
  | box t l => cases b with
    | true => cases h
    | false => exact ⟨rfl, rfl⟩
  | non => cases h
  | ro => cases h
  | own => exact ⟨rfl, rfl⟩
theorem roC_occ {ρ : List Loc} {c d : Nat} {b : Bool} {x : Ch} (h : Occ ρ c (roC b x) d) : Occ ρ c x d := by
  cases x with
  | box t l => cases b with
    | true => exact h.2
    | false => exact h
  | non => exact h
  | ro => exact h
  | own => exact h
theorem wr_may {B : Bs} {ρ : List Loc} {m : Mem} {w : World} (h : MSat B ρ m w) {c b : Nat} (hw : (mget m c).wr = true) (o : Occ ρ c (mget m c) b) : B.May b := by
  have hd := h.ch c
  cases hm : mget m c with
  | non => rw [hm] at hw; cases hw
  | ro sz n f => rw [hm] at hw; cases hw
  | own t sz n f =>
    rw [hm] at hd o
    obtain ⟨L, vs, j1, _, _, _, j5, _⟩ := hd
    obtain ⟨L2, j8, j9⟩ := o
    rw [j1] at j8; cases j8
    exact (j5 b j9).2
  | box t l =>
    rw [hm] at hd o
    obtain ⟨L, vs, j1, _, _, _, _, _, j7⟩ := hd
    obtain ⟨L2, j8, j9⟩ := o
    rw [j1] at j8; cases j8
    rw [← j9]; exact j7

def mixX (ρ : List Loc) (m : Mem) (x : Nat) : Prop := ∃ c, (mget m c).wr = true ∧ Occ ρ c (mget m c) x
def mixB (B : Bs) (ρ : List Loc) (m : Mem) (w : World) : Bs := ⟨w, mixX ρ m, ρ, B.glob⟩

theorem mix_enter {B : Bs} {ρ : List Loc} {m : Mem} {w : World} (h : MSat B ρ m w) (bs : List Nat) : MSat (mixB B ρ (roM bs m) w) ρ (roM bs m) w := by
  have own : ∀ c, (mget (roM bs m) c).wr = true → mget (roM bs m) c = mget m c ∧ (mget m c).wr = true := fun c hc => by
    rw [roM_get] at hc ⊢; exact roC_wr hc
  have occ : ∀ c b, Occ ρ c (mget (roM bs m) c) b → Occ ρ c (mget m c) b := fun c b o => by rw [roM_get] at o; exact roC_occ o
  refine ⟨fun c => ?_, fun c d b hne hw o o' => ?_, ⟨rfl, rfl, rfl, Nat.le_refl _, fun _ _ _ => rfl⟩, Ext.refl _, fun g v hg => ⟨?_, ?_, h.frm.glb h.glb hg⟩, fun c b hc o => ?_⟩
  · have hc := h.ch c
    cases hm : mget m c with
    | non => rw [roM_get, hm]; trivial
    | ro sz n f =>
      rw [roM_get, hm]
      rw [hm] at hc
      exact hc
    | own t sz n f =>
      have e : mget (roM bs m) c = .own t sz n f := by rw [roM_get, hm]; rfl
      rw [hm] at hc
      rw [e]
      obtain ⟨L, vs, k1, k2, k3, k4, k5, k6, k7⟩ := hc
      exact ⟨L, vs, k1, k2, k3, k4, fun b hb => ⟨(k5 b hb).1, .inr ⟨c, by rw [e]; rfl, by rw [e]; exact ⟨L, k1, hb⟩⟩⟩, k6, k7⟩
    | box t l =>
      rw [hm] at hc
      obtain ⟨L, vs, k1, k2, k3, k4, k5, k6, _⟩ := hc
      cases hb : inL c bs with
      | true =>
        rw [roM_get, hm, hb]
        have hlt : L.blk < w.heap.size := by
          rcases Nat.lt_or_ge L.blk w.heap.size with h | h
          · exact h
          · rw [Array.getElem?_eq_none h] at k4; cases k4
        refine ⟨L, k1, k3, fun _ => hlt, fun i hi => ?_⟩
        have : i = 0 := by omega
        subst this
        refine ⟨vs, k5, k5.length, k6, fun j u hu => ?_⟩
        rw [k2]
        simp only [Nat.zero_mul, Nat.zero_add]
        simp [World.cell?, k4, hu]
      | false =>
        have e : mget (roM bs m) c = .box t l := by rw [roM_get, hm, hb]; rfl
        rw [e]
        exact ⟨L, vs, k1, k2, k3, k4, k5, k6, .inr ⟨c, by rw [e]; rfl, by rw [e]; exact ⟨L, k1, rfl⟩⟩⟩
  · exact h.sep c d b hne (own c hw).2 (occ c b o) (occ d b o')
  · exact Nat.lt_of_lt_of_le (h.glb g v hg).1 h.frm.size
  · rintro ⟨c, hw, o⟩
    obtain ⟨k1, k2, _⟩ := h.glb g v hg
    rcases wr_may h (own c hw).2 (occ c g o) with j | j
    · omega
    · exact k2 j
  · have hc' : ρ.length ≤ c := hc
    rcases (h.ch c).loc with hn | ⟨L, hL⟩
    · have o2 := occ c b o
      rw [hn] at o2; exact o2.elim
    · have := (List.getElem?_eq_some_iff.1 hL).1; omega

theorem mix_leave {B : Bs} {ρ ρ' : List Loc} {m m' : Mem} {w w' : World} (h : MSat B ρ m w) {bs : List Nat} (hbx : allBox m ρ.length bs = true) (h' : MSat (mixB B ρ (roM bs m) w) ρ' m' w') (hk : backOk bs m m' ρ.length) :
    MSat B ρ' (backM bs m m') w' := by
  have e : Ext ρ ρ' := h'.ext
  have own : ∀ c, (mget (roM bs m) c).wr = true → (mget m c).wr = true := fun c hc => by
    rw [roM_get] at hc; exact (roC_wr hc).2
  have occ : ∀ c b, Occ ρ c (mget (roM bs m) c) b → Occ ρ c (mget m c) b := fun c b o => by rw [roM_get] at o; exact roC_occ o
  have mayX : ∀ x, mixX ρ (roM bs m) x → B.May x := fun x ⟨c, hw, o⟩ => wr_may h (own c hw) (occ c x o)
  have may : ∀ x, (mixB B ρ (roM bs m) w).May x → B.May x := fun x hx => by
    rcases hx with hx | hx
    · exact .inl (Nat.le_trans h.frm.size hx)
    · exact mayX x hx
  -- the variables that were set apart: nobody wrote there
  have kept : ∀ c t l L, inL c bs = true → mget m c = .box t l → ρ[c]? = some L → L.blk < w.heap.size ∧ ¬ mixX ρ (roM bs m) L.blk := by
    intro c t l L hb hm hL
    have o : Occ ρ c (mget m c) L.blk := by rw [hm]; exact ⟨L, hL, rfl⟩
    refine ⟨h.occ_lt o, fun ⟨d, hw, o'⟩ => ?_⟩
    by_cases hdc : d = c
    · subst hdc
      rw [roM_get, hm, hb] at hw; cases hw
    · exact h.sep d c L.blk hdc (own d hw) (occ d _ o') o
  have get : ∀ c, (inL c bs = true ∧ ∃ t l, mget m c = .box t l ∧ mget (backM bs m m') c = .box t l) ∨ (inL c bs = false ∧ mget (backM bs m m') c = mget m' c) := by
    intro c
    rw [backM_get]
    cases hb : inL c bs with
    | true =>
      obtain ⟨_, t, l, hm⟩ := allBox_mem hbx c (inL_mem hb)
      rw [hm]
      exact .inl ⟨rfl, t, l, rfl, rfl⟩
    | false =>
      refine .inr ⟨rfl, ?_⟩
      cases mget m c <;> rfl
  -- where a chunk lies now, it lay before, or it is new
  have back : ∀ c b, Occ ρ' c (mget (backM bs m m') c) b → (c < ρ.length ∧ Occ ρ c (mget m c) b ∧ ((mget (backM bs m m') c).wr = true → (mget m c).wr = true)) ∨ (ρ.length ≤ c ∧ inL c bs = false ∧ mget (backM bs m m') c = mget m' c ∧ (w.heap.size ≤ b ∨ mixX ρ (roM bs m) b)) := by
    intro c b o
    rcases get c with ⟨hb, t, l, hm, hg⟩ | ⟨hb, hg⟩
    · have hlt := (allBox_mem hbx c (inL_mem hb)).1
      rw [hg] at o
      obtain ⟨L, hL⟩ : ∃ L, ρ[c]? = some L := ⟨_, List.getElem?_eq_getElem hlt⟩
      obtain ⟨L2, h2, h3⟩ := o
      rw [e c L hL] at h2; cases h2
      exact .inl ⟨hlt, by rw [hm]; exact ⟨L, hL, h3⟩, fun _ => by rw [hm]; rfl⟩
    · rw [hg] at o ⊢
      rcases Nat.lt_or_ge c ρ.length with hlt | hge
      · exact .inl ⟨hlt, kindP_occ e hlt (backOk_get hk c hlt hb) o⟩
      · exact .inr ⟨hge, hb, rfl, h'.fresh c b hge o⟩
  refine ⟨fun c => ?_, fun c d b hne hw o o' => ?_, ?_, h.ext.trans e, h.glb, fun c b hc o => ?_⟩
  · rcases get c with ⟨hb, t, l, hm, hg⟩ | ⟨hb, hg⟩
    · rw [hg]
      have hc := h.ch c
      rw [hm] at hc
      obtain ⟨L, vs, k1, k2, k3, k4, k5, k6, k7⟩ := hc
      obtain ⟨q1, q2⟩ := kept c t l L hb hm k1
      exact ⟨L, vs, e c L k1, k2, k3, (h'.frm.block _ q1 q2).trans k4, RelL.mono e _ _ k5, k6, k7⟩
    · rw [hg]
      have hc := h'.ch c
      cases hm : mget m' c with
      | non => trivial
      | ro sz n f => rw [hm] at hc; exact hc
      | own t sz n f =>
        rw [hm] at hc
        obtain ⟨L, vs, k1, k2, k3, k4, k5, k6, k7⟩ := hc
        exact ⟨L, vs, k1, k2, k3, k4, fun b hb => ⟨(k5 b hb).1, may b (k5 b hb).2⟩, k6, k7⟩
      | box t l =>
        rw [hm] at hc
        obtain ⟨L, vs, k1, k2, k3, k4, k5, k6, k7⟩ := hc
        exact ⟨L, vs, k1, k2, k3, k4, k5, k6, may _ k7⟩
  · -- both old; one of them new; both new
    have mixed : ∀ c d, (mget (backM bs m m') c).wr = true ∨ (mget (backM bs m m') d).wr = true → c ≠ d → Occ ρ' c (mget (backM bs m m') c) b → Occ ρ' d (mget (backM bs m m') d) b →
        (c < ρ.length ∧ Occ ρ c (mget m c) b ∧ ((mget (backM bs m m') c).wr = true → (mget m c).wr = true)) → (ρ.length ≤ d ∧ inL d bs = false ∧ mget (backM bs m m') d = mget m' d ∧ (w.heap.size ≤ b ∨ mixX ρ (roM bs m) b)) → False := by
      intro c d hw hne o o' ⟨hc, oc, hwc⟩ ⟨hd, hbd, hgd, hfr⟩
      rcases hfr with hfr | hfr
      · have := h.occ_lt oc; omega
      · rcases get c with ⟨hb, t, l, hm, hg⟩ | ⟨hb, hg⟩
        · have oc' := oc
          rw [hm] at oc'
          obtain ⟨L, h1, h2⟩ := oc'
          obtain ⟨_, q2⟩ := kept c t l L hb hm h1
          exact q2 (by rw [h2]; exact hfr)
        · rw [hg] at hw o
          rw [hgd] at hw o'
          rcases hw with hw | hw
          · exact h'.sep c d b hne hw o o'
          · exact h'.sep d c b (Ne.symm hne) hw o' o
    rcases back c b o with hc | hc <;> rcases back d b o' with hd | hd
    · exact h.sep c d b hne (hc.2.2 hw) hc.2.1 hd.2.1
    · exact mixed c d (.inl hw) hne o o' hc hd
    · exact mixed d c (.inr hw) (Ne.symm hne) o' o hd hc
    · rw [hc.2.2.1] at hw o
      rw [hd.2.2.1] at o'
      exact h'.sep c d b hne hw o o'
  · refine h.frm.step h'.frm.os h'.frm.tape h'.frm.output h'.frm.size (fun x hx hnx => h'.frm.block x (Nat.lt_of_lt_of_le hx h.frm.size) (fun hX => ?_))
    rcases mayX x hX with j | j
    · omega
    · exact hnx j
  · rcases back c b o with hc' | hc'
    · exact h.fresh c b hc hc'.2.1
    · exact may b hc'.2.2.2

/-- THE RULE. -/
theorem reg_mix {Γ : Cx} {ops : Array Oper} {s : St} {K : St → Prop} (bs : List Nat) (l : List (Nat × Bool)) (hB : (Region.noSelect ops && Nat.beq l.length ops.size && mixOk ops l (Array.replicate ops.size false)) = true) (hbx : allBox s.mem s.nx bs = true)
    (h : ∀ B' : Bs, B'.glob = Γ.B.glob → vcMix ⟨Γ.P, Γ.tab, B', Γ.N, s.nx⟩ (roM bs s.mem) ops.toList l ⟨s.fr, roM bs s.mem, s.nx⟩ (fun s' => backOk bs s.mem s'.mem s.nx ∧ fmem (backM bs s.mem s'.mem) fun M => K ⟨s'.fr, M, s'.nx⟩)) : RegG Γ ops s K := by
  refine ⟨fun ht hf Q id ρ a w hK hQ H => ?_⟩
  simp only [Bool.and_eq_true] at hB
  have H' : Holds Γ.B Γ.N ρ s a { w with drawn := w.drawn + 1 } := H.drew
  have hnx := H'.nx
  have hm := mix_enter H'.mem bs
  have hbx' : allBox s.mem ρ.length bs = true := by rw [hnx]; exact hbx
  refine wp_region_mix (Inv := Frm (mixB Γ.B ρ (roM bs s.mem) { w with drawn := w.drawn + 1 })) hf hQ l hB.1.1 (Nat.eq_of_beq_eq_true hB.1.2) hB.2 hm.frm ?_
  refine vcMix_sound (Γ := ⟨Γ.P, Γ.tab, mixB Γ.B ρ (roM bs s.mem) { w with drawn := w.drawn + 1 }, Γ.N, s.nx⟩) ht (m0 := roM bs s.mem) ⟨hm.ch, ?_⟩ ?_ l _ ρ a _ (h _ rfl) ⟨hnx, H'.fr, H'.size, H'.dfr, hm⟩
  · intro c sz n f L hc hn hL
    have o : Occ ρ c (mget (roM bs s.mem) c) L.blk := by rw [hc]; exact ⟨hn, L, hL, rfl⟩
    refine ⟨hm.occ_lt o, fun ⟨d, hw, o'⟩ => ?_⟩
    have hdc : d ≠ c := fun e => by subst e; rw [hc] at hw; cases hw
    exact hm.sep d c L.blk hdc hw o' o
  · intro s' ρ' a' w' hk H''
    obtain ⟨hk1, hk2⟩ := hk
    rw [fmem_eq] at hk2
    refine hK _ ρ' a' w' hk2 ⟨H''.nx, H''.fr, H''.size, H''.dfr, mix_leave H'.mem hbx' H''.mem (by rw [hnx]; exact hk1)⟩
end Go.Proofs.YtiihmggoebohkaaDoor.Vc
