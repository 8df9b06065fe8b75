/- Verification conditions by symbolic execution: how a state outlives a step. -/
import Derived.Test.YtiihmggoebohkaaDoorVc1
namespace Go.Proofs.YtiihmggoebohkaaDoor.Vc
open Go Go.RowKit

theorem ChSat.mono {B : Bs} {ρ ρ' : List Loc} {w : World} {c : Nat} {ch : Ch} (e : Ext ρ ρ') (h : ChSat B ρ w c ch) : ChSat B ρ' w c ch := by
  cases ch with
  | non => trivial
  | ro sz n f =>
    obtain ⟨L, h1, h2, h3, h4⟩ := h
    exact ⟨L, e _ _ h1, h2, h3, fun i hi => let ⟨vs, r, q⟩ := h4 i hi; ⟨vs, RelL.mono e _ _ r, q⟩⟩
  | own et sz n f =>
    obtain ⟨L, vs, h1, h2, h3, h4, h5, h6, h7⟩ := h
    exact ⟨L, vs, e _ _ h1, h2, h3, h4, h5, h6, fun i hi => RelL.mono e _ _ (h7 i hi)⟩
  | box t l =>
    obtain ⟨L, vs, h1, h2, h3, h4, h5, h6⟩ := h
    exact ⟨L, vs, e _ _ h1, h2, h3, h4, RelL.mono e _ _ h5, h6⟩

theorem ChSat.at {B : Bs} {ρ : List Loc} {w : World} {c : Nat} {ch : Ch} {b : Nat} (_ : ChSat B ρ w c ch) (o : Occ ρ c ch b) : ∃ L, ρ[c]? = some L := by
  cases ch with
  | non => exact o.elim
  | ro sz n f => exact ⟨_, o.2.choose_spec.1⟩
  | own et sz n f => exact ⟨_, o.choose_spec.1⟩
  | box t l => exact ⟨_, o.choose_spec.1⟩

theorem Occ.back {ρ ρ' : List Loc} {c b : Nat} {ch : Ch} {L : Loc} (e : Ext ρ ρ') (hL : ρ[c]? = some L) (o : Occ ρ' c ch b) : Occ ρ c ch b := by
  have hL' := e _ _ hL
  cases ch with
  | non => exact o
  | ro sz n f =>
    obtain ⟨hn, L2, h2, hb⟩ := o
    rw [hL'] at h2; cases h2
    exact ⟨hn, L, hL, hb⟩
  | own et sz n f =>
    obtain ⟨L2, h2, hb⟩ := o
    rw [hL'] at h2; cases h2
    exact ⟨L, hL, hb⟩
  | box t l =>
    obtain ⟨L2, h2, hb⟩ := o
    rw [hL'] at h2; cases h2
    exact ⟨L, hL, hb⟩
theorem Occ.fwd {ρ ρ' : List Loc} {c b : Nat} {ch : Ch} (e : Ext ρ ρ') (o : Occ ρ c ch b) : Occ ρ' c ch b := by
  cases ch with
  | non => exact o
  | ro sz n f => exact ⟨o.1, let ⟨L, h, k⟩ := o.2; ⟨L, e _ _ h, k⟩⟩
  | own et sz n f => exact let ⟨L, h, k⟩ := o; ⟨L, e _ _ h, k⟩
  | box t l => exact let ⟨L, h, k⟩ := o; ⟨L, e _ _ h, k⟩

/-- A chunk that is somewhere has its place. -/
theorem ChSat.loc {B : Bs} {ρ : List Loc} {w : World} {c : Nat} {ch : Ch} (h : ChSat B ρ w c ch) : ch = .non ∨ ∃ L, ρ[c]? = some L := by
  cases ch with
  | non => exact .inl rfl
  | ro sz n f => obtain ⟨L, h1, _⟩ := h; exact .inr ⟨L, h1⟩
  | own et sz n f => obtain ⟨L, vs, h1, _⟩ := h; exact .inr ⟨L, h1⟩
  | box t l => obtain ⟨L, vs, h1, _⟩ := h; exact .inr ⟨L, h1⟩

theorem ChSat.occ_lt {B : Bs} {ρ : List Loc} {w : World} {c : Nat} {ch : Ch} {b : Nat} (h : ChSat B ρ w c ch) (o : Occ ρ c ch b) : b < w.heap.size := by
  cases ch with
  | non => exact o.elim
  | ro sz n f =>
    obtain ⟨L, h1, _, h3, _⟩ := h
    obtain ⟨hn, L2, h2, rfl⟩ := o
    rw [h1] at h2; cases h2
    exact h3 hn
  | own et sz n f =>
    obtain ⟨L, vs, h1, _, _, h4, _⟩ := h
    obtain ⟨L2, h2, hb⟩ := o
    rw [h1] at h2; cases h2
    exact (h4.lt b hb).2
  | box t l =>
    obtain ⟨L, vs, h1, _, _, h4, _⟩ := h
    obtain ⟨L2, h2, rfl⟩ := o
    rw [h1] at h2; cases h2
    rcases Nat.lt_or_ge L.blk w.heap.size with hlt | hge
    · exact hlt
    · rw [Array.getElem?_eq_none hge] at h4; cases h4

theorem ChSat.keep {B : Bs} {ρ : List Loc} {w w' : World} {c : Nat} {ch : Ch} (h : ChSat B ρ w c ch) (hb : ∀ b, Occ ρ c ch b → w'.heap[b]? = w.heap[b]?) (hs : w.heap.size ≤ w'.heap.size) : ChSat B ρ w' c ch := by
  cases ch with
  | non => trivial
  | ro sz n f =>
    obtain ⟨L, h1, h2, h3, h4⟩ := h
    refine ⟨L, h1, h2, fun hn => Nat.lt_of_lt_of_le (h3 hn) hs, fun i hi => ?_⟩
    obtain ⟨vs, r, q1, q2, q3⟩ := h4 i hi
    refine ⟨vs, r, q1, q2, fun j u hu => ?_⟩
    rw [World.cell?_of_block (hb L.blk ⟨by omega, L, h1, rfl⟩)]
    exact q3 j u hu
  | own et sz n f =>
    obtain ⟨L, vs, h1, h2, h3, h4, h5, h6, h7⟩ := h
    refine ⟨L, vs, h1, h2, h3, ?_, h5, h6, h7⟩
    obtain ⟨hl, hr⟩ := h4
    refine ⟨hl, ?_⟩
    rcases hr with hr | ⟨g, cap, cur, hv, hg, hh, r⟩
    · exact .inl hr
    · exact .inr ⟨g, cap, cur, hv, hg, by rw [hb g ⟨L, h1, by rw [hv]; rfl⟩]; exact hh, r⟩
  | box t l =>
    obtain ⟨L, vs, h1, h2, h3, h4, h5, h6⟩ := h
    exact ⟨L, vs, h1, h2, h3, by rw [hb L.blk ⟨L, h1, rfl⟩]; exact h4, h5, h6⟩

theorem MSat.occ_lt {B : Bs} {ρ : List Loc} {m : Mem} {w : World} (h : MSat B ρ m w) {c b : Nat} (o : Occ ρ c (mget m c) b) : b < w.heap.size := (h.ch c).occ_lt o

/-- The world grows; what the chunks lie in stays. -/
theorem MSat.grow {B : Bs} {ρ : List Loc} {m : Mem} {w w' : World} (h : MSat B ρ m w) (hb : ∀ c b, Occ ρ c (mget m c) b → w'.heap[b]? = w.heap[b]?) (hs : w.heap.size ≤ w'.heap.size) (hf : Frm B w') : MSat B ρ m w' :=
  ⟨fun c => (h.ch c).keep (hb c) hs, h.sep, hf, h.ext, h.glb, h.fresh⟩

theorem Frm.step {B : Bs} {w w' : World} (h : Frm B w) (ho : w'.os = w.os) (ht : w'.tape = w.tape) (hu : w'.output = w.output) (hs : w.heap.size ≤ w'.heap.size)
    (hb : ∀ k, k < B.w0.heap.size → ¬ B.X k → w'.heap[k]? = w.heap[k]?) : Frm B w' :=
  ⟨ho.trans h.os, ht.trans h.tape, hu.trans h.output, Nat.le_trans h.size hs, fun k hk hx => (hb k hk hx).trans (h.block k hk hx)⟩
theorem Frm.below {B : Bs} {w w' : World} (h : Frm B w) (hb : Below w.heap.size w w') : Frm B w' :=
  h.step hb.os hb.tape hb.output hb.size fun k hk _ => hb.block k (Nat.lt_of_lt_of_le hk h.size)

theorem MSat.below {B : Bs} {ρ : List Loc} {m : Mem} {w w' : World} (h : MSat B ρ m w) (hb : Below w.heap.size w w') : MSat B ρ m w' :=
  h.grow (fun _ b o => hb.block b (h.occ_lt o)) hb.size (h.frm.below hb)
theorem MSat.drew {B : Bs} {ρ : List Loc} {m : Mem} {w : World} (h : MSat B ρ m w) : MSat B ρ m w.drew := h.below ((Below.refl _ _).drew)

/-- A new chunk, known in this very world. -/
theorem MSat.add {B : Bs} {ρ : List Loc} {m : Mem} {w : World} (h : MSat B ρ m w) (L : Loc) (ch : Ch) (hc : ChSat B (ρ ++ [L]) w ρ.length ch)
    (hsep : ∀ c b, ((mget m c).wr = true ∨ ch.wr = true) → Occ ρ c (mget m c) b → ¬ Occ (ρ ++ [L]) ρ.length ch b) (hnew : ∀ b, Occ (ρ ++ [L]) ρ.length ch b → B.May b) : MSat B (ρ ++ [L]) ((ρ.length, ch) :: m) w := by
  have e := Ext.app ρ [L]
  refine ⟨fun c => ?_, fun c d b hne hw o o' => ?_, h.frm, h.ext.trans e, h.glb, fun c b hc o => ?_⟩
  · rw [mget_cons]
    split
    · rename_i hc'; subst hc'; exact hc
    · exact (h.ch c).mono e
  · rw [mget_cons] at hw o o'
    have hold : ∀ c, ρ.length ≠ c → Occ (ρ ++ [L]) c (mget m c) b → Occ ρ c (mget m c) b := by
      intro c _ o
      rcases (h.ch c).loc with hn | ⟨L2, h2⟩
      · rw [hn] at o; exact o.elim
      · exact o.back e h2
    by_cases h1 : ρ.length = c
    · rw [if_pos h1] at hw o
      have h2 : ρ.length ≠ d := fun e => hne (h1.symm.trans e)
      rw [if_neg h2] at o'
      subst h1
      exact hsep d b (.inr hw) (hold d h2 o') o
    · rw [if_neg h1] at hw o
      by_cases h2 : ρ.length = d
      · rw [if_pos h2] at o'
        subst h2
        exact hsep c b (.inl hw) (hold c h1 o) o'
      · rw [if_neg h2] at o'
        exact h.sep c d b hne hw (hold c h1 o) (hold d h2 o')
  · rw [mget_cons] at o
    by_cases h1 : ρ.length = c
    · rw [if_pos h1] at o
      subst h1
      exact hnew b o
    · rw [if_neg h1] at o
      rcases (h.ch c).loc with hn | ⟨L2, h2⟩
      · rw [hn] at o; exact o.elim
      · exact h.fresh c b hc (o.back e h2)

/-- A chunk is forgotten. -/
theorem MSat.drop {B : Bs} {ρ : List Loc} {m : Mem} {w : World} (h : MSat B ρ m w) (c : Nat) : MSat B ρ ((c, .non) :: m) w := by
  refine ⟨fun d => ?_, fun d d' b hne hw o o' => ?_, h.frm, h.ext, h.glb, fun d b hd o => ?_⟩
  rotate_left 2
  · rw [mget_cons] at o
    split at o
    · exact o.elim
    · exact h.fresh d b hd o
  · rw [mget_cons]
    split
    · trivial
    · exact h.ch d
  · rw [mget_cons] at hw o o'
    split at hw
    · cases hw
    · rename_i hd
      rw [if_neg hd] at o
      split at o'
      · exact o'.elim
      · exact h.sep d d' b hne hw o o'

/-- A chunk that may be written holds something else now. -/
theorem MSat.upd {B : Bs} {ρ : List Loc} {m : Mem} {w w' : World} (h : MSat B ρ m w) (c : Nat) (ch' : Ch) (hw : (mget m c).wr = true) (hocc : ∀ b, Occ ρ c ch' b → Occ ρ c (mget m c) b)
    (hsame : ∀ k, ¬ Occ ρ c (mget m c) k → w'.heap[k]? = w.heap[k]?) (hs : w.heap.size ≤ w'.heap.size) (hf : Frm B w') (hc : ChSat B ρ w' c ch') : MSat B ρ ((c, ch') :: m) w' := by
  refine ⟨fun d => ?_, fun d d' b hne hwd o o' => ?_, hf, h.ext, h.glb, fun d b hd o => ?_⟩
  rotate_left 2
  · rw [mget_cons] at o
    split at o
    · rename_i hd'; subst hd'; exact h.fresh _ b hd (hocc b o)
    · exact h.fresh d b hd o
  · rw [mget_cons]
    split
    · rename_i hd; subst hd; exact hc
    · rename_i hd
      exact (h.ch d).keep (fun b o => hsame b (fun o' => h.sep c d b hd hw o' o)) hs
  · rw [mget_cons] at hwd o o'
    by_cases h1 : c = d
    · rw [if_pos h1] at hwd o
      have h2 : c ≠ d' := fun e => hne (h1.symm.trans e)
      rw [if_neg h2] at o'
      subst h1
      exact h.sep c d' b h2 hw (hocc b o) o'
    · rw [if_neg h1] at hwd o
      by_cases h2 : c = d'
      · rw [if_pos h2] at o'
        subst h2
        exact h.sep d c b hne hwd o (hocc b o')
      · rw [if_neg h2] at o'
        exact h.sep d d' b hne hwd o o'

/-! Slots. -/
def ev (s : St) : Operand → SV
  | .tmp t => fget s.fr t
  | .const v => .v v
  | .func f => .f f []
  | .global _ => .u
theorem Holds.ev {B : Bs} {N : Nat} {ρ : List Loc} {s : St} {a : Act} {w : World} (h : Holds B N ρ s a w) (x : Operand) : Rel ρ (ev s x) (a.eval x) := by
  cases x with
  | tmp t => exact h.fr t
  | const v => simp only [Vc.ev, Rel, Act.eval]
  | func f => simp [Vc.ev, Rel, RelL, Act.eval]
  | global g => simp only [Vc.ev, Rel]

/-! Forcing: a value is brought to its form once, where it is laid down. -/
def fv (x : Value) (K : Value → Prop) : Prop :=
  match x with
  | .int k n => K (.int k n)
  | .bool b => K (.bool b)
  | .string s => K (.string s)
  | .iface t v => K (.iface t v)
  | .nilIface => K .nilIface
  | .slice a n c => K (.slice a n c)
  | y => K y
theorem fv_eq (x : Value) (K : Value → Prop) : fv x K = K x := by cases x <;> rfl
/-- A small number, brought to its numeral. -/
def fnat (n : Nat) (K : Nat → Prop) : Prop :=
  match n with
  | 0 => K 0
  | 1 => K 1
  | 2 => K 2
  | 3 => K 3
  | 4 => K 4
  | 5 => K 5
  | 6 => K 6
  | 7 => K 7
  | 8 => K 8
  | 9 => K 9
  | 10 => K 10
  | 11 => K 11
  | 12 => K 12
  | 13 => K 13
  | 14 => K 14
  | 15 => K 15
  | 16 => K 16
  | 17 => K 17
  | 18 => K 18
  | 19 => K 19
  | 20 => K 20
  | 21 => K 21
  | 22 => K 22
  | 23 => K 23
  | 24 => K 24
  | 25 => K 25
  | 26 => K 26
  | 27 => K 27
  | 28 => K 28
  | 29 => K 29
  | 30 => K 30
  | 31 => K 31
  | 32 => K 32
  | 33 => K 33
  | 34 => K 34
  | 35 => K 35
  | 36 => K 36
  | 37 => K 37
  | 38 => K 38
  | 39 => K 39
  | 40 => K 40
  | 41 => K 41
  | 42 => K 42
  | 43 => K 43
  | 44 => K 44
  | 45 => K 45
  | 46 => K 46
  | 47 => K 47
  | 48 => K 48
  | 49 => K 49
  | 50 => K 50
  | 51 => K 51
  | 52 => K 52
  | 53 => K 53
  | 54 => K 54
  | 55 => K 55
  | 56 => K 56
  | 57 => K 57
  | 58 => K 58
  | 59 => K 59
  | 60 => K 60
  | 61 => K 61
  | 62 => K 62
  | 63 => K 63
  | n => K n
theorem fnat_eq (n : Nat) (K : Nat → Prop) : fnat n K = K n := by
  unfold fnat; split <;> rfl
def fs0 (x : SV) (K : SV → Prop) : Prop :=
  match x with
  | .v y => fv y fun y => K (.v y)
  | .p c i o => fnat c fun c => K (.p c i o)
  | .s c i n => fnat c fun c => K (.s c i n)
  | .o c => fnat c fun c => K (.o c)
  | .a l => K (.a l)
  | .t l => K (.t l)
  | .f g l => K (.f g l)
  | .u => K .u
theorem fs0_eq (x : SV) (K : SV → Prop) : fs0 x K = K x := by cases x <;> simp [fs0, fv_eq, fnat_eq]
def fsL0 : List SV → (List SV → Prop) → Prop
  | [], K => K []
  | x :: r, K => fs0 x fun x => fsL0 r fun r => K (x :: r)
theorem fsL0_eq : ∀ (l : List SV) (K : List SV → Prop), fsL0 l K = K l
  | [], K => rfl
  | x :: r, K => by simp [fsL0, fs0_eq, fsL0_eq r]
def fs1 (x : SV) (K : SV → Prop) : Prop :=
  match x with
  | .a l => fsL0 l fun l => K (.a l)
  | .f g l => fsL0 l fun l => K (.f g l)
  | y => fs0 y K
theorem fs1_eq (x : SV) (K : SV → Prop) : fs1 x K = K x := by cases x <;> simp [fs1, fs0_eq, fsL0_eq]
def fsL1 : List SV → (List SV → Prop) → Prop
  | [], K => K []
  | x :: r, K => fs1 x fun x => fsL1 r fun r => K (x :: r)
theorem fsL1_eq : ∀ (l : List SV) (K : List SV → Prop), fsL1 l K = K l
  | [], K => rfl
  | x :: r, K => by simp [fsL1, fs1_eq, fsL1_eq r]
def fsv (x : SV) (K : SV → Prop) : Prop :=
  match x with
  | .t l => fsL1 l fun l => K (.t l)
  | y => fs1 y K
theorem fsv_eq (x : SV) (K : SV → Prop) : fsv x K = K x := by cases x <;> simp [fsv, fs1_eq, fsL1_eq]
def fch (x : Ch) (K : Ch → Prop) : Prop :=
  match x with
  | .non => K .non
  | .ro sz n f => K (.ro sz n f)
  | .own e sz n f => K (.own e sz n f)
  | .box t l => fsL1 l fun l => K (.box t l)
theorem fch_eq (x : Ch) (K : Ch → Prop) : fch x K = K x := by cases x <;> simp [fch, fsL1_eq]
def fmem : Mem → (Mem → Prop) → Prop
  | [], K => K []
  | (c, x) :: r, K => fnat c fun c => fch x fun x => fmem r fun r => K ((c, x) :: r)
theorem fmem_eq : ∀ (l : Mem) (K : Mem → Prop), fmem l K = K l
  | [], K => rfl
  | (c, x) :: r, K => by simp [fmem, fnat_eq, fch_eq, fmem_eq r]

def put (N : Nat) (s : St) (d : Option Nat) (x : SV) (K : St → Prop) : Prop :=
  match s with
  | ⟨fr, mem, nx⟩ => match d with
    | none => K ⟨fr, mem, nx⟩
    | some t => bif Nat.blt t N then fsv x fun x => K ⟨(t, x) :: fr, mem, nx⟩ else False
theorem blt_lt {t N : Nat} (h : Nat.blt t N = true) : t < N := by simpa [Nat.blt_eq] using h
theorem put_sound {B : Bs} {N : Nat} {ρ : List Loc} {s : St} {a : Act} {w : World} (h : Holds B N ρ s a w) {d : Option Nat} {x : SV} {v : Value} {K : St → Prop} (hx : Rel ρ x v) (hp : put N s d x K) :
    ∃ s', K s' ∧ Holds B N ρ s' (a.put d v) w ∧ s'.mem = s.mem ∧ s'.nx = s.nx := by
  obtain ⟨fr, mem, nx⟩ := s
  cases d with
  | none => exact ⟨_, hp, h, rfl, rfl⟩
  | some t =>
    simp only [put] at hp
    cases hb : Nat.blt t N with
    | false => rw [hb] at hp; exact hp.elim
    | true =>
      rw [hb] at hp
      simp only [cond_true, fsv_eq] at hp
      refine ⟨_, hp, ⟨h.nx, fun t' => ?_, by simpa [Act.put] using h.size, h.dfr, h.mem⟩, rfl, rfl⟩
      have hlt : t < a.tmps.size := by rw [h.size]; exact blt_lt hb
      rw [fget_cons]
      simp only [Act.put, Array.getD_eq_getD_getElem?, Array.getElem?_setIfInBounds]
      split
      · rename_i e; subst e; simpa [hlt] using hx
      · have := h.fr t'; simpa [Array.getD_eq_getD_getElem?] using this

theorem Holds.world {B : Bs} {N : Nat} {ρ : List Loc} {s : St} {a : Act} {w w' : World} (h : Holds B N ρ s a w) (hm : MSat B ρ s.mem w') : Holds B N ρ s a w' := ⟨h.nx, h.fr, h.size, h.dfr, hm⟩
theorem Holds.drew {B : Bs} {N : Nat} {ρ : List Loc} {s : St} {a : Act} {w : World} (h : Holds B N ρ s a w) : Holds B N ρ s a w.drew := h.world h.mem.drew
end Go.Proofs.YtiihmggoebohkaaDoor.Vc
