/- Verification conditions by symbolic execution over the model's code: parts Vc1, Vc2, Vc3, Vc4, Vc5, Vc6, Vc7, Vc8, Vc9, Vc10, Vc11, Vc12. -/
import Derived.WalkKit
import Derived.WalkSpells
import Derived.WalkLawsBesides
import Derived.Below
import Derived.Maps.AppendAt
import Derived.Laws.Tables
import Derived.WideLaws
namespace Go.Proofs.Ytdabahipeepheaa.Vc
open Go Go.RowKit

/-- Where a chunk lies: its block, its first cell, the cells of an element; of a row of the call's own: its owner's value. -/
structure Loc where
  blk : Nat
  off : Nat
  sz : Nat
  own : Value

/-- A symbolic value: plain; a pointer into chunk c (element i, cell o of it); a slice of it (n elements from i on); its owner; a struct or an array; a tuple; a function value; unknown. -/
inductive SV where
  | v (x : Value)
  | p (c i o : Nat)
  | s (c i n : Nat)
  | o (c : Nat)
  | a (l : List SV)
  | t (l : List SV)
  | f (fn : Nat) (l : List SV)
  | u

mutual
def Rel (ρ : List Loc) : SV → Value → Prop
  | .v x, y => y = x
  | .p c i o, y => ∃ L, ρ[c]? = some L ∧ y = .pointer (some ⟨L.blk, L.off + i * L.sz + o, none⟩)
  | .s c i n, y => ∃ L A k, ρ[c]? = some L ∧ y = .slice A n k ∧ n ≤ k ∧ k ≤ maxLen ∧ (0 < n → A = some ⟨L.blk, L.off + i * L.sz, none⟩)
  | .o c, y => ∃ L, ρ[c]? = some L ∧ y = L.own ∧ y.oneCell' = true
  | .a l, y => ∃ vs, y = .agg vs.toArray ∧ RelL ρ l vs ∧ ∀ x ∈ vs, x.oneCell' = true
  | .t l, y => ∃ vs, y = .tuple vs.toArray ∧ RelL ρ l vs
  | .f fn l, y => ∃ vs, y = .func (.func fn) #[] vs.toArray ∧ RelL ρ l vs
  | .u, _ => True
def RelL (ρ : List Loc) : List SV → List Value → Prop
  | [], vs => vs = []
  | x :: r, vs => ∃ v vr, vs = v :: vr ∧ Rel ρ x v ∧ RelL ρ r vr
end

def Ext (ρ ρ' : List Loc) : Prop := ∀ (c : Nat) (L : Loc), ρ[c]? = some L → ρ'[c]? = some L
theorem Ext.refl (ρ : List Loc) : Ext ρ ρ := fun _ _ h => h
theorem Ext.trans {ρ ρ' ρ'' : List Loc} (h : Ext ρ ρ') (k : Ext ρ' ρ'') : Ext ρ ρ'' := fun c L e => k c L (h c L e)
theorem Ext.app (ρ l : List Loc) : Ext ρ (ρ ++ l) := fun c L h => by
  rw [List.getElem?_append_left]; exact h
  exact (List.getElem?_eq_some_iff.1 h).1

mutual
theorem Rel.mono {ρ ρ' : List Loc} (h : Ext ρ ρ') : ∀ (x : SV) (y : Value), Rel ρ x y → Rel ρ' x y
  | .v _, _, k => by simpa only [Rel] using k
  | .p c _ _, _, k => by
    simp only [Rel] at k ⊢
    obtain ⟨L, e, r⟩ := k; exact ⟨L, h c L e, r⟩
  | .s c _ _, _, k => by
    simp only [Rel] at k ⊢
    obtain ⟨L, A, q, e, r⟩ := k; exact ⟨L, A, q, h c L e, r⟩
  | .o c, _, k => by
    simp only [Rel] at k ⊢
    obtain ⟨L, e, r⟩ := k; exact ⟨L, h c L e, r⟩
  | .a l, _, k => by
    simp only [Rel] at k ⊢
    obtain ⟨vs, e, r, q⟩ := k; exact ⟨vs, e, RelL.mono h l vs r, q⟩
  | .t l, _, k => by
    simp only [Rel] at k ⊢
    obtain ⟨vs, e, r⟩ := k; exact ⟨vs, e, RelL.mono h l vs r⟩
  | .f _ l, _, k => by
    simp only [Rel] at k ⊢
    obtain ⟨vs, e, r⟩ := k; exact ⟨vs, e, RelL.mono h l vs r⟩
  | .u, _, _ => by simp only [Rel]
theorem RelL.mono {ρ ρ' : List Loc} (h : Ext ρ ρ') : ∀ (l : List SV) (vs : List Value), RelL ρ l vs → RelL ρ' l vs
  | [], _, k => by simpa only [RelL] using k
  | x :: r, _, k => by
    simp only [RelL] at k ⊢
    obtain ⟨v, vr, e, h1, h2⟩ := k; exact ⟨v, vr, e, Rel.mono h x v h1, RelL.mono h r vr h2⟩
end

theorem RelL.length {ρ : List Loc} : ∀ {l : List SV} {vs : List Value}, RelL ρ l vs → vs.length = l.length
  | [], _, h => by simp only [RelL] at h; subst h; rfl
  | x :: r, _, h => by
    simp only [RelL] at h
    obtain ⟨v, vr, rfl, _, h2⟩ := h
    simp [RelL.length h2]
theorem RelL.get {ρ : List Loc} : ∀ {l : List SV} {vs : List Value}, RelL ρ l vs → ∀ {j : Nat} {x : SV}, l[j]? = some x → ∃ v, vs[j]? = some v ∧ Rel ρ x v
  | [], _, _, _, _, e => by simp at e
  | x :: r, _, h, j, y, e => by
    simp only [RelL] at h
    obtain ⟨v, vr, rfl, h1, h2⟩ := h
    cases j with
    | zero => simp at e; subst e; exact ⟨v, by simp, h1⟩
    | succ j => simpa using RelL.get h2 (j := j) (by simpa using e)
theorem RelL.drop {ρ : List Loc} : ∀ {l : List SV} {vs : List Value}, RelL ρ l vs → ∀ (j : Nat), RelL ρ (l.drop j) (vs.drop j)
  | l, vs, h, 0 => by simpa using h
  | [], _, h, j + 1 => by simp only [RelL] at h; subst h; simp [RelL]
  | x :: r, _, h, j + 1 => by
    simp only [RelL] at h
    obtain ⟨v, vr, rfl, _, h2⟩ := h
    simpa using RelL.drop h2 j
theorem RelL.take {ρ : List Loc} : ∀ {l : List SV} {vs : List Value}, RelL ρ l vs → ∀ (j : Nat), RelL ρ (l.take j) (vs.take j)
  | l, vs, h, 0 => by simp [RelL]
  | [], _, h, j + 1 => by simp only [RelL] at h; subst h; simp [RelL]
  | x :: r, _, h, j + 1 => by
    simp only [RelL] at h
    obtain ⟨v, vr, rfl, h1, h2⟩ := h
    simp only [List.take_succ_cons, RelL]
    exact ⟨_, _, rfl, h1, RelL.take h2 j⟩
theorem RelL.append {ρ : List Loc} : ∀ {l l' : List SV} {vs vs' : List Value}, RelL ρ l vs → RelL ρ l' vs' → RelL ρ (l ++ l') (vs ++ vs')
  | [], _, _, _, h, h' => by simp only [RelL] at h; subst h; simpa using h'
  | x :: r, _, _, _, h, h' => by
    simp only [RelL] at h
    obtain ⟨v, vr, rfl, h1, h2⟩ := h
    simp only [List.cons_append, RelL]
    exact ⟨_, _, rfl, h1, RelL.append h2 h'⟩
theorem RelL.set {ρ : List Loc} : ∀ {l : List SV} {vs : List Value}, RelL ρ l vs → ∀ (j : Nat) {x : SV} {v : Value}, Rel ρ x v → RelL ρ (l.set j x) (vs.set j v)
  | [], _, h, j, x, v, _ => by simp only [RelL] at h; subst h; simp [RelL]
  | y :: r, _, h, 0, x, v, k => by
    simp only [RelL] at h
    obtain ⟨v', vr, rfl, h1, h2⟩ := h
    simp only [List.set_cons_zero, RelL]
    exact ⟨_, _, rfl, k, h2⟩
  | y :: r, _, h, j + 1, x, v, k => by
    simp only [RelL] at h
    obtain ⟨v', vr, rfl, h1, h2⟩ := h
    simp only [List.set_cons_succ, RelL]
    exact ⟨_, _, rfl, h1, RelL.set h2 j k⟩
theorem RelL.plain {ρ : List Loc} : ∀ (vs us : List Value), RelL ρ (vs.map .v) us ↔ us = vs
  | [], us => by simp [RelL]
  | v :: r, us => by
    simp only [List.map_cons, RelL, Rel]
    constructor
    · rintro ⟨_, vr, rfl, rfl, h⟩; rw [(RelL.plain r vr).1 h]
    · rintro rfl; exact ⟨_, _, rfl, rfl, (RelL.plain r r).2 rfl⟩

/-- Is it a value of one cell? -/
def SV.one : SV → Bool
  | .v x => x.oneCell'
  | .p .. => true
  | .s .. => true
  | .o _ => true
  | .f .. => true
  | _ => false
theorem Rel.one {ρ : List Loc} {x : SV} {v : Value} (h : Rel ρ x v) (k : x.one = true) : v.oneCell' = true := by
  cases x with
  | v y => simp only [Rel] at h; subst h; exact k
  | p c i o => simp only [Rel] at h; obtain ⟨L, _, rfl⟩ := h; rfl
  | s c i n => simp only [Rel] at h; obtain ⟨L, A, q, _, rfl, _⟩ := h; rfl
  | o c => simp only [Rel] at h; obtain ⟨L, _, _, h⟩ := h; exact h
  | f g l => simp only [Rel] at h; obtain ⟨vs, rfl, _⟩ := h; rfl
  | a l => cases k
  | t l => cases k
  | u => cases k
def oneL : List SV → Bool
  | [] => true
  | x :: r => x.one && oneL r
theorem RelL.one {ρ : List Loc} : ∀ {l : List SV} {vs : List Value}, RelL ρ l vs → oneL l = true → ∀ x ∈ vs, x.oneCell' = true
  | [], vs, h, _, x, hx => by simp only [RelL] at h; subst h; simp at hx
  | y :: r, vs, h, k, x, hx => by
    simp only [RelL] at h
    obtain ⟨v, vr, rfl, h1, h2⟩ := h
    simp only [oneL, Bool.and_eq_true] at k
    rcases List.mem_cons.1 hx with rfl | hx
    · exact h1.one k.1
    · exact RelL.one h2 k.2 x hx

/-- What is known of a chunk: rows that are read, a row of the call's own, a variable (struct) of its own. -/
inductive Ch where
  | non
  | ro (sz n : Nat) (f : Nat → List SV)
  | own (e sz n : Nat) (f : Nat → List SV)
  | box (t : Nat) (l : List SV)
def Ch.wr : Ch → Bool
  | .own .. => true
  | .box .. => true
  | _ => false

abbrev Fr := List (Nat × SV)
def fget : Fr → Nat → SV
  | [], _ => .u
  | (m, x) :: r, n => bif Nat.beq m n then x else fget r n
abbrev Mem := List (Nat × Ch)
def mget : Mem → Nat → Ch
  | [], _ => .non
  | (m, x) :: r, n => bif Nat.beq m n then x else mget r n
structure St where
  fr : Fr
  mem : Mem
  nx : Nat

/-- What the call began with; the blocks of others that it may write; where the chunks lie that it began with. -/
structure Bs where
  w0 : World
  X : Nat → Prop
  r0 : List Loc
  glob : List (Nat × Value)

/-- A block that may be written: new, or one of those that are let. -/
def Bs.May (B : Bs) (b : Nat) : Prop := B.w0.heap.size ≤ b ∨ B.X b

def ChSat (B : Bs) (ρ : List Loc) (w : World) (c : Nat) : Ch → Prop
  | .non => True
  | .ro sz n f => ∃ L, ρ[c]? = some L ∧ L.sz = sz ∧ (0 < n → L.blk < w.heap.size) ∧
      ∀ i, i < n → ∃ vs, RelL ρ (f i) vs ∧ vs.length = sz ∧ (∀ x ∈ vs, x.oneCell' = true) ∧ ∀ j u, vs[j]? = some u → w.cell? ⟨L.blk, L.off + i * sz + j, none⟩ = some u
  | .own e sz n f => ∃ L vs, ρ[c]? = some L ∧ L.sz = sz ∧ L.off = 0 ∧ w.ownsRow 0 e sz L.own n vs ∧ (∀ b, L.own.ownBlock = some b → L.blk = b ∧ B.May b) ∧
      (∀ x ∈ vs, x.oneCell' = true) ∧ ∀ i, i < n → RelL ρ (f i) ((vs.drop (i * sz)).take sz)
  | .box t l => ∃ L vs, ρ[c]? = some L ∧ L.off = 0 ∧ L.sz = l.length ∧ w.heap[L.blk]? = some (.cells vs.toArray t (0, 0)) ∧ RelL ρ l vs ∧ (∀ x ∈ vs, x.oneCell' = true) ∧
      B.May L.blk

def Occ (ρ : List Loc) (c : Nat) (ch : Ch) (b : Nat) : Prop :=
  match ch with
  | .non => False
  | .ro _ n _ => 0 < n ∧ ∃ L, ρ[c]? = some L ∧ L.blk = b
  | .own .. => ∃ L, ρ[c]? = some L ∧ L.own.ownBlock = some b
  | .box .. => ∃ L, ρ[c]? = some L ∧ L.blk = b

def Sep (ρ : List Loc) (m : Mem) : Prop := ∀ c d b, c ≠ d → (mget m c).wr = true → Occ ρ c (mget m c) b → ¬ Occ ρ d (mget m d) b

structure Frm (B : Bs) (w : World) : Prop where
  os : w.os = B.w0.os
  tape : w.tape = B.w0.tape
  output : w.output = B.w0.output
  size : B.w0.heap.size ≤ w.heap.size
  block : ∀ k, k < B.w0.heap.size → ¬ B.X k → w.heap[k]? = B.w0.heap[k]?

/-- A package-level variable's cells. -/
def gCells (w : World) (g : Nat) : Option (Array Value) := match w.heap[g]? with
  | some (.cells cs _ _) => some cs
  | _ => none
/-- What is known of a package-level variable: its one cell, or (told as a tuple) its cells. -/
def gAt (w : World) (g : Nat) : Value → Prop
  | .tuple vs => gCells w g = some vs
  | v => w.cell? ⟨g, 0, none⟩ = some v
theorem var_of_gAt {P : Program} {w : World} {n : String} {g : Nat} {vs : Array Value} (hg : P.globalNamed n = some g) (h : gAt w g (.tuple vs)) : w.var? P n = some vs := by
  unfold World.var?
  rw [hg, Option.bind_some]
  exact h
theorem gAt_of_var {P : Program} {w : World} {n : String} {g : Nat} {vs : Array Value} (hg : P.globalNamed n = some g) (h : w.var? P n = some vs) : g < w.heap.size ∧ gAt w g (.tuple vs) := by
  unfold World.var? at h
  rw [hg, Option.bind_some] at h
  refine ⟨?_, h⟩
  rcases Nat.lt_or_ge g w.heap.size with k | k
  · exact k
  · rw [Array.getElem?_eq_none k] at h; cases h
/-- The package-level variables of which something is known: they stay. -/
def Bs.Glb (B : Bs) : Prop := ∀ (g : Nat) (v : Value), (g, v) ∈ B.glob → g < B.w0.heap.size ∧ ¬ B.X g ∧ gAt B.w0 g v
theorem gAt_block {w w' : World} {g : Nat} {v : Value} (h : w.heap[g]? = w'.heap[g]?) (k : gAt w' g v) : gAt w g v := by
  unfold gAt at k ⊢
  split at k
  · unfold gCells at k ⊢; rw [h]; exact k
  · rw [World.cell?_of_block h]; exact k
theorem Frm.glb {B : Bs} {w : World} (h : Frm B w) (k : B.Glb) {g : Nat} {v : Value} (hm : (g, v) ∈ B.glob) : gAt w g v := by
  obtain ⟨h1, h2, h3⟩ := k g v hm
  exact gAt_block (h.block g h1 h2) h3
structure MSat (B : Bs) (ρ : List Loc) (m : Mem) (w : World) : Prop where
  ch : ∀ c, ChSat B ρ w c (mget m c)
  sep : Sep ρ m
  frm : Frm B w
  ext : Ext B.r0 ρ
  glb : B.Glb
  fresh : ∀ c b, B.r0.length ≤ c → Occ ρ c (mget m c) b → B.May b

structure Holds (B : Bs) (N : Nat) (ρ : List Loc) (s : St) (a : Act) (w : World) : Prop where
  nx : ρ.length = s.nx
  fr : ∀ t, Rel ρ (fget s.fr t) (a.tmps.getD t undef)
  size : a.tmps.size = N
  dfr : a.defers = []
  mem : MSat B ρ s.mem w

theorem fget_cons (t : Nat) (x : SV) (r : Fr) (n : Nat) : fget ((t, x) :: r) n = if t = n then x else fget r n := by
  simp only [fget]
  by_cases h : t = n
  · subst h; simp [Nat.beq_refl]
  · rw [if_neg h]
    have : Nat.beq t n = false := by
      cases e : Nat.beq t n with
      | false => rfl
      | true => exact absurd (Nat.eq_of_beq_eq_true e) h
    rw [this]; rfl
theorem mget_cons (t : Nat) (x : Ch) (r : Mem) (n : Nat) : mget ((t, x) :: r) n = if t = n then x else mget r n := by
  simp only [mget]
  by_cases h : t = n
  · subst h; simp [Nat.beq_refl]
  · rw [if_neg h]
    have : Nat.beq t n = false := by
      cases e : Nat.beq t n with
      | false => rfl
      | true => exact absurd (Nat.eq_of_beq_eq_true e) h
    rw [this]; rfl
end Go.Proofs.Ytdabahipeepheaa.Vc

namespace Go.Proofs.Ytdabahipeepheaa.Vc
open Go Go.RowKit

theorem ChSat.mono {B : Bs} {ρ ρ' : List Loc} {w : World} {c : Nat} {ch : Ch} (e : Ext ρ ρ') (h : ChSat B ρ w c ch) : ChSat B ρ' w c ch := by
  cases ch with
  | non => trivial
  | ro sz n f =>
    obtain ⟨L, h1, h2, h3, h4⟩ := h
    exact ⟨L, e _ _ h1, h2, h3, fun i hi => let ⟨vs, r, q⟩ := h4 i hi; ⟨vs, RelL.mono e _ _ r, q⟩⟩
  | own et sz n f =>
    obtain ⟨L, vs, h1, h2, h3, h4, h5, h6, h7⟩ := h
    exact ⟨L, vs, e _ _ h1, h2, h3, h4, h5, h6, fun i hi => RelL.mono e _ _ (h7 i hi)⟩
  | box t l =>
    obtain ⟨L, vs, h1, h2, h3, h4, h5, h6⟩ := h
    exact ⟨L, vs, e _ _ h1, h2, h3, h4, RelL.mono e _ _ h5, h6⟩

theorem ChSat.at {B : Bs} {ρ : List Loc} {w : World} {c : Nat} {ch : Ch} {b : Nat} (_ : ChSat B ρ w c ch) (o : Occ ρ c ch b) : ∃ L, ρ[c]? = some L := by
  cases ch with
  | non => exact o.elim
  | ro sz n f => exact ⟨_, o.2.choose_spec.1⟩
  | own et sz n f => exact ⟨_, o.choose_spec.1⟩
  | box t l => exact ⟨_, o.choose_spec.1⟩

theorem Occ.back {ρ ρ' : List Loc} {c b : Nat} {ch : Ch} {L : Loc} (e : Ext ρ ρ') (hL : ρ[c]? = some L) (o : Occ ρ' c ch b) : Occ ρ c ch b := by
  have hL' := e _ _ hL
  cases ch with
  | non => exact o
  | ro sz n f =>
    obtain ⟨hn, L2, h2, hb⟩ := o
    rw [hL'] at h2; cases h2
    exact ⟨hn, L, hL, hb⟩
  | own et sz n f =>
    obtain ⟨L2, h2, hb⟩ := o
    rw [hL'] at h2; cases h2
    exact ⟨L, hL, hb⟩
  | box t l =>
    obtain ⟨L2, h2, hb⟩ := o
    rw [hL'] at h2; cases h2
    exact ⟨L, hL, hb⟩
theorem Occ.fwd {ρ ρ' : List Loc} {c b : Nat} {ch : Ch} (e : Ext ρ ρ') (o : Occ ρ c ch b) : Occ ρ' c ch b := by
  cases ch with
  | non => exact o
  | ro sz n f => exact ⟨o.1, let ⟨L, h, k⟩ := o.2; ⟨L, e _ _ h, k⟩⟩
  | own et sz n f => exact let ⟨L, h, k⟩ := o; ⟨L, e _ _ h, k⟩
  | box t l => exact let ⟨L, h, k⟩ := o; ⟨L, e _ _ h, k⟩

/-- A chunk that is somewhere has its place. -/
theorem ChSat.loc {B : Bs} {ρ : List Loc} {w : World} {c : Nat} {ch : Ch} (h : ChSat B ρ w c ch) : ch = .non ∨ ∃ L, ρ[c]? = some L := by
  cases ch with
  | non => exact .inl rfl
  | ro sz n f => obtain ⟨L, h1, _⟩ := h; exact .inr ⟨L, h1⟩
  | own et sz n f => obtain ⟨L, vs, h1, _⟩ := h; exact .inr ⟨L, h1⟩
  | box t l => obtain ⟨L, vs, h1, _⟩ := h; exact .inr ⟨L, h1⟩

theorem ChSat.occ_lt {B : Bs} {ρ : List Loc} {w : World} {c : Nat} {ch : Ch} {b : Nat} (h : ChSat B ρ w c ch) (o : Occ ρ c ch b) : b < w.heap.size := by
  cases ch with
  | non => exact o.elim
  | ro sz n f =>
    obtain ⟨L, h1, _, h3, _⟩ := h
    obtain ⟨hn, L2, h2, rfl⟩ := o
    rw [h1] at h2; cases h2
    exact h3 hn
  | own et sz n f =>
    obtain ⟨L, vs, h1, _, _, h4, _⟩ := h
    obtain ⟨L2, h2, hb⟩ := o
    rw [h1] at h2; cases h2
    exact (h4.lt b hb).2
  | box t l =>
    obtain ⟨L, vs, h1, _, _, h4, _⟩ := h
    obtain ⟨L2, h2, rfl⟩ := o
    rw [h1] at h2; cases h2
    rcases Nat.lt_or_ge L.blk w.heap.size with hlt | hge
    · exact hlt
    · rw [Array.getElem?_eq_none hge] at h4; cases h4

theorem ChSat.keep {B : Bs} {ρ : List Loc} {w w' : World} {c : Nat} {ch : Ch} (h : ChSat B ρ w c ch) (hb : ∀ b, Occ ρ c ch b → w'.heap[b]? = w.heap[b]?) (hs : w.heap.size ≤ w'.heap.size) : ChSat B ρ w' c ch := by
  cases ch with
  | non => trivial
  | ro sz n f =>
    obtain ⟨L, h1, h2, h3, h4⟩ := h
    refine ⟨L, h1, h2, fun hn => Nat.lt_of_lt_of_le (h3 hn) hs, fun i hi => ?_⟩
    obtain ⟨vs, r, q1, q2, q3⟩ := h4 i hi
    refine ⟨vs, r, q1, q2, fun j u hu => ?_⟩
    rw [World.cell?_of_block (hb L.blk ⟨by omega, L, h1, rfl⟩)]
    exact q3 j u hu
  | own et sz n f =>
    obtain ⟨L, vs, h1, h2, h3, h4, h5, h6, h7⟩ := h
    refine ⟨L, vs, h1, h2, h3, ?_, h5, h6, h7⟩
    obtain ⟨hl, hr⟩ := h4
    refine ⟨hl, ?_⟩
    rcases hr with hr | ⟨g, cap, cur, hv, hg, hh, r⟩
    · exact .inl hr
    · exact .inr ⟨g, cap, cur, hv, hg, by rw [hb g ⟨L, h1, by rw [hv]; rfl⟩]; exact hh, r⟩
  | box t l =>
    obtain ⟨L, vs, h1, h2, h3, h4, h5, h6⟩ := h
    exact ⟨L, vs, h1, h2, h3, by rw [hb L.blk ⟨L, h1, rfl⟩]; exact h4, h5, h6⟩

theorem MSat.occ_lt {B : Bs} {ρ : List Loc} {m : Mem} {w : World} (h : MSat B ρ m w) {c b : Nat} (o : Occ ρ c (mget m c) b) : b < w.heap.size := (h.ch c).occ_lt o

/-- The world grows; what the chunks lie in stays. -/
theorem MSat.grow {B : Bs} {ρ : List Loc} {m : Mem} {w w' : World} (h : MSat B ρ m w) (hb : ∀ c b, Occ ρ c (mget m c) b → w'.heap[b]? = w.heap[b]?) (hs : w.heap.size ≤ w'.heap.size) (hf : Frm B w') : MSat B ρ m w' :=
  ⟨fun c => (h.ch c).keep (hb c) hs, h.sep, hf, h.ext, h.glb, h.fresh⟩

theorem Frm.step {B : Bs} {w w' : World} (h : Frm B w) (ho : w'.os = w.os) (ht : w'.tape = w.tape) (hu : w'.output = w.output) (hs : w.heap.size ≤ w'.heap.size)
    (hb : ∀ k, k < B.w0.heap.size → ¬ B.X k → w'.heap[k]? = w.heap[k]?) : Frm B w' :=
  ⟨ho.trans h.os, ht.trans h.tape, hu.trans h.output, Nat.le_trans h.size hs, fun k hk hx => (hb k hk hx).trans (h.block k hk hx)⟩
theorem Frm.below {B : Bs} {w w' : World} (h : Frm B w) (hb : Below w.heap.size w w') : Frm B w' :=
  h.step hb.os hb.tape hb.output hb.size fun k hk _ => hb.block k (Nat.lt_of_lt_of_le hk h.size)

theorem MSat.below {B : Bs} {ρ : List Loc} {m : Mem} {w w' : World} (h : MSat B ρ m w) (hb : Below w.heap.size w w') : MSat B ρ m w' :=
  h.grow (fun _ b o => hb.block b (h.occ_lt o)) hb.size (h.frm.below hb)
theorem MSat.drew {B : Bs} {ρ : List Loc} {m : Mem} {w : World} (h : MSat B ρ m w) : MSat B ρ m w.drew := h.below ((Below.refl _ _).drew)

/-- A new chunk, known in this very world. -/
theorem MSat.add {B : Bs} {ρ : List Loc} {m : Mem} {w : World} (h : MSat B ρ m w) (L : Loc) (ch : Ch) (hc : ChSat B (ρ ++ [L]) w ρ.length ch)
    (hsep : ∀ c b, ((mget m c).wr = true ∨ ch.wr = true) → Occ ρ c (mget m c) b → ¬ Occ (ρ ++ [L]) ρ.length ch b) (hnew : ∀ b, Occ (ρ ++ [L]) ρ.length ch b → B.May b) : MSat B (ρ ++ [L]) ((ρ.length, ch) :: m) w := by
  have e := Ext.app ρ [L]
  refine ⟨fun c => ?_, fun c d b hne hw o o' => ?_, h.frm, h.ext.trans e, h.glb, fun c b hc o => ?_⟩
  · rw [mget_cons]
    split
    · rename_i hc'; subst hc'; exact hc
    · exact (h.ch c).mono e
  · rw [mget_cons] at hw o o'
    have hold : ∀ c, ρ.length ≠ c → Occ (ρ ++ [L]) c (mget m c) b → Occ ρ c (mget m c) b := by
      intro c _ o
      rcases (h.ch c).loc with hn | ⟨L2, h2⟩
      · rw [hn] at o; exact o.elim
      · exact o.back e h2
    by_cases h1 : ρ.length = c
    · rw [if_pos h1] at hw o
      have h2 : ρ.length ≠ d := fun e => hne (h1.symm.trans e)
      rw [if_neg h2] at o'
      subst h1
      exact hsep d b (.inr hw) (hold d h2 o') o
    · rw [if_neg h1] at hw o
      by_cases h2 : ρ.length = d
      · rw [if_pos h2] at o'
        subst h2
        exact hsep c b (.inl hw) (hold c h1 o) o'
      · rw [if_neg h2] at o'
        exact h.sep c d b hne hw (hold c h1 o) (hold d h2 o')
  · rw [mget_cons] at o
    by_cases h1 : ρ.length = c
    · rw [if_pos h1] at o
      subst h1
      exact hnew b o
    · rw [if_neg h1] at o
      rcases (h.ch c).loc with hn | ⟨L2, h2⟩
      · rw [hn] at o; exact o.elim
      · exact h.fresh c b hc (o.back e h2)

/-- A chunk is forgotten. -/
theorem MSat.drop {B : Bs} {ρ : List Loc} {m : Mem} {w : World} (h : MSat B ρ m w) (c : Nat) : MSat B ρ ((c, .non) :: m) w := by
  refine ⟨fun d => ?_, fun d d' b hne hw o o' => ?_, h.frm, h.ext, h.glb, fun d b hd o => ?_⟩
  rotate_left 2
  · rw [mget_cons] at o
    split at o
    · exact o.elim
    · exact h.fresh d b hd o
  · rw [mget_cons]
    split
    · trivial
    · exact h.ch d
  · rw [mget_cons] at hw o o'
    split at hw
    · cases hw
    · rename_i hd
      rw [if_neg hd] at o
      split at o'
      · exact o'.elim
      · exact h.sep d d' b hne hw o o'

/-- A chunk that may be written holds something else now. -/
theorem MSat.upd {B : Bs} {ρ : List Loc} {m : Mem} {w w' : World} (h : MSat B ρ m w) (c : Nat) (ch' : Ch) (hw : (mget m c).wr = true) (hocc : ∀ b, Occ ρ c ch' b → Occ ρ c (mget m c) b)
    (hsame : ∀ k, ¬ Occ ρ c (mget m c) k → w'.heap[k]? = w.heap[k]?) (hs : w.heap.size ≤ w'.heap.size) (hf : Frm B w') (hc : ChSat B ρ w' c ch') : MSat B ρ ((c, ch') :: m) w' := by
  refine ⟨fun d => ?_, fun d d' b hne hwd o o' => ?_, hf, h.ext, h.glb, fun d b hd o => ?_⟩
  rotate_left 2
  · rw [mget_cons] at o
    split at o
    · rename_i hd'; subst hd'; exact h.fresh _ b hd (hocc b o)
    · exact h.fresh d b hd o
  · rw [mget_cons]
    split
    · rename_i hd; subst hd; exact hc
    · rename_i hd
      exact (h.ch d).keep (fun b o => hsame b (fun o' => h.sep c d b hd hw o' o)) hs
  · rw [mget_cons] at hwd o o'
    by_cases h1 : c = d
    · rw [if_pos h1] at hwd o
      have h2 : c ≠ d' := fun e => hne (h1.symm.trans e)
      rw [if_neg h2] at o'
      subst h1
      exact h.sep c d' b h2 hw (hocc b o) o'
    · rw [if_neg h1] at hwd o
      by_cases h2 : c = d'
      · rw [if_pos h2] at o'
        subst h2
        exact h.sep d c b hne hwd o (hocc b o')
      · rw [if_neg h2] at o'
        exact h.sep d d' b hne hwd o o'

/-! Slots. -/
def ev (s : St) : Operand → SV
  | .tmp t => fget s.fr t
  | .const v => .v v
  | .func f => .f f []
  | .global _ => .u
theorem Holds.ev {B : Bs} {N : Nat} {ρ : List Loc} {s : St} {a : Act} {w : World} (h : Holds B N ρ s a w) (x : Operand) : Rel ρ (ev s x) (a.eval x) := by
  cases x with
  | tmp t => exact h.fr t
  | const v => simp only [Vc.ev, Rel, Act.eval]
  | func f => simp [Vc.ev, Rel, RelL, Act.eval]
  | global g => simp only [Vc.ev, Rel]

/-! Forcing: a value is brought to its form once, where it is laid down. -/
def fv (x : Value) (K : Value → Prop) : Prop :=
  match x with
  | .int k n => K (.int k n)
  | .bool b => K (.bool b)
  | .string s => K (.string s)
  | .iface t v => K (.iface t v)
  | .nilIface => K .nilIface
  | .slice a n c => K (.slice a n c)
  | y => K y
theorem fv_eq (x : Value) (K : Value → Prop) : fv x K = K x := by cases x <;> rfl
/-- A small number, brought to its numeral. -/
def fnat (n : Nat) (K : Nat → Prop) : Prop :=
  match n with
  | 0 => K 0
  | 1 => K 1
  | 2 => K 2
  | 3 => K 3
  | 4 => K 4
  | 5 => K 5
  | 6 => K 6
  | 7 => K 7
  | 8 => K 8
  | 9 => K 9
  | 10 => K 10
  | 11 => K 11
  | 12 => K 12
  | 13 => K 13
  | 14 => K 14
  | 15 => K 15
  | 16 => K 16
  | 17 => K 17
  | 18 => K 18
  | 19 => K 19
  | 20 => K 20
  | 21 => K 21
  | 22 => K 22
  | 23 => K 23
  | 24 => K 24
  | 25 => K 25
  | 26 => K 26
  | 27 => K 27
  | 28 => K 28
  | 29 => K 29
  | 30 => K 30
  | 31 => K 31
  | 32 => K 32
  | 33 => K 33
  | 34 => K 34
  | 35 => K 35
  | 36 => K 36
  | 37 => K 37
  | 38 => K 38
  | 39 => K 39
  | 40 => K 40
  | 41 => K 41
  | 42 => K 42
  | 43 => K 43
  | 44 => K 44
  | 45 => K 45
  | 46 => K 46
  | 47 => K 47
  | 48 => K 48
  | 49 => K 49
  | 50 => K 50
  | 51 => K 51
  | 52 => K 52
  | 53 => K 53
  | 54 => K 54
  | 55 => K 55
  | 56 => K 56
  | 57 => K 57
  | 58 => K 58
  | 59 => K 59
  | 60 => K 60
  | 61 => K 61
  | 62 => K 62
  | 63 => K 63
  | n => K n
theorem fnat_eq (n : Nat) (K : Nat → Prop) : fnat n K = K n := by
  unfold fnat; split <;> rfl
def fs0 (x : SV) (K : SV → Prop) : Prop :=
  match x with
  | .v y => fv y fun y => K (.v y)
  | .p c i o => fnat c fun c => K (.p c i o)
  | .s c i n => fnat c fun c => K (.s c i n)
  | .o c => fnat c fun c => K (.o c)
  | .a l => K (.a l)
  | .t l => K (.t l)
  | .f g l => K (.f g l)
  | .u => K .u
theorem fs0_eq (x : SV) (K : SV → Prop) : fs0 x K = K x := by cases x <;> simp [fs0, fv_eq, fnat_eq]
def fsL0 : List SV → (List SV → Prop) → Prop
  | [], K => K []
  | x :: r, K => fs0 x fun x => fsL0 r fun r => K (x :: r)
theorem fsL0_eq : ∀ (l : List SV) (K : List SV → Prop), fsL0 l K = K l
  | [], K => rfl
  | x :: r, K => by simp [fsL0, fs0_eq, fsL0_eq r]
def fs1 (x : SV) (K : SV → Prop) : Prop :=
  match x with
  | .a l => fsL0 l fun l => K (.a l)
  | .f g l => fsL0 l fun l => K (.f g l)
  | y => fs0 y K
theorem fs1_eq (x : SV) (K : SV → Prop) : fs1 x K = K x := by cases x <;> simp [fs1, fs0_eq, fsL0_eq]
def fsL1 : List SV → (List SV → Prop) → Prop
  | [], K => K []
  | x :: r, K => fs1 x fun x => fsL1 r fun r => K (x :: r)
theorem fsL1_eq : ∀ (l : List SV) (K : List SV → Prop), fsL1 l K = K l
  | [], K => rfl
  | x :: r, K => by simp [fsL1, fs1_eq, fsL1_eq r]
def fsv (x : SV) (K : SV → Prop) : Prop :=
  match x with
  | .t l => fsL1 l fun l => K (.t l)
  | y => fs1 y K
theorem fsv_eq (x : SV) (K : SV → Prop) : fsv x K = K x := by cases x <;> simp [fsv, fs1_eq, fsL1_eq]
def fch (x : Ch) (K : Ch → Prop) : Prop :=
  match x with
  | .non => K .non
  | .ro sz n f => K (.ro sz n f)
  | .own e sz n f => K (.own e sz n f)
  | .box t l => fsL1 l fun l => K (.box t l)
theorem fch_eq (x : Ch) (K : Ch → Prop) : fch x K = K x := by cases x <;> simp [fch, fsL1_eq]
def fmem : Mem → (Mem → Prop) → Prop
  | [], K => K []
  | (c, x) :: r, K => fnat c fun c => fch x fun x => fmem r fun r => K ((c, x) :: r)
theorem fmem_eq : ∀ (l : Mem) (K : Mem → Prop), fmem l K = K l
  | [], K => rfl
  | (c, x) :: r, K => by simp [fmem, fnat_eq, fch_eq, fmem_eq r]

def put (N : Nat) (s : St) (d : Option Nat) (x : SV) (K : St → Prop) : Prop :=
  match s with
  | ⟨fr, mem, nx⟩ => match d with
    | none => K ⟨fr, mem, nx⟩
    | some t => bif Nat.blt t N then fsv x fun x => K ⟨(t, x) :: fr, mem, nx⟩ else False
theorem blt_lt {t N : Nat} (h : Nat.blt t N = true) : t < N := by simpa [Nat.blt_eq] using h
theorem put_sound {B : Bs} {N : Nat} {ρ : List Loc} {s : St} {a : Act} {w : World} (h : Holds B N ρ s a w) {d : Option Nat} {x : SV} {v : Value} {K : St → Prop} (hx : Rel ρ x v) (hp : put N s d x K) :
    ∃ s', K s' ∧ Holds B N ρ s' (a.put d v) w ∧ s'.mem = s.mem ∧ s'.nx = s.nx := by
  obtain ⟨fr, mem, nx⟩ := s
  cases d with
  | none => exact ⟨_, hp, h, rfl, rfl⟩
  | some t =>
    simp only [put] at hp
    cases hb : Nat.blt t N with
    | false => rw [hb] at hp; exact hp.elim
    | true =>
      rw [hb] at hp
      simp only [cond_true, fsv_eq] at hp
      refine ⟨_, hp, ⟨h.nx, fun t' => ?_, by simpa [Act.put] using h.size, h.dfr, h.mem⟩, rfl, rfl⟩
      have hlt : t < a.tmps.size := by rw [h.size]; exact blt_lt hb
      rw [fget_cons]
      simp only [Act.put, Array.getD_eq_getD_getElem?, Array.getElem?_setIfInBounds]
      split
      · rename_i e; subst e; simpa [hlt] using hx
      · have := h.fr t'; simpa [Array.getD_eq_getD_getElem?] using this

theorem Holds.world {B : Bs} {N : Nat} {ρ : List Loc} {s : St} {a : Act} {w w' : World} (h : Holds B N ρ s a w) (hm : MSat B ρ s.mem w') : Holds B N ρ s a w' := ⟨h.nx, h.fr, h.size, h.dfr, hm⟩
theorem Holds.drew {B : Bs} {N : Nat} {ρ : List Loc} {s : St} {a : Act} {w : World} (h : Holds B N ρ s a w) : Holds B N ρ s a w.drew := h.world h.mem.drew
end Go.Proofs.Ytdabahipeepheaa.Vc

namespace Go.Proofs.Ytdabahipeepheaa.Vc
open Go Go.RowKit

inductive TD where
  | sl (e : Nat)
  | st (fs : List (Nat × Nat))
  | arr (n e : Nat)
  | str
  | int (k : IntKind)
  | ifc
  | sc
def TD.agg : TD → Bool
  | .st _ => true
  | .arr .. => true
  | _ => false
structure TI where
  d : TD
  size : Nat
  bytes : Nat
  zero : List Value
abbrev Tab := List (Nat × TI)
def tget : Tab → Nat → Option TI
  | [], _ => none
  | (m, x) :: r, n => bif Nat.beq m n then some x else tget r n

theorem tget_cons {m : Nat} {x : TI} {r : Tab} {n : Nat} {i : TI} (h : tget ((m, x) :: r) n = some i) : (n = m ∧ i = x) ∨ tget r n = some i := by
  simp only [tget] at h
  cases e : Nat.beq m n with
  | true => rw [e] at h; cases h; exact .inl ⟨(Nat.eq_of_beq_eq_true e).symm, rfl⟩
  | false => rw [e] at h; exact .inr h
def TD.ok (desc : TypeDesc) : TD → Prop
  | .sl e => desc = .slice e
  | .st fs => ∃ g, desc = .struct g ∧ g.toList.map (fun f => (f.offset, f.type)) = fs
  | .arr n e => desc = .array n e
  | .str => desc = .string
  | .int k => desc = .int k
  | .ifc => ∃ ms, desc = .interface ms
  | .sc => match desc with | .struct _ | .array .. | .slice _ | .string | .interface _ => False | _ => True
structure TI.ok (P : Program) (t : Nat) (i : TI) : Prop where
  info : ∃ j z, P.info? t = some j ∧ j.zero = some z ∧ z.cells.toList = i.zero ∧ j.size = i.size ∧ j.bytes = i.bytes
  len : i.zero.length = i.size
  one1 : i.d.agg = false → i.size = 1
  one : ∀ x ∈ i.zero, x.oneCell' = true
  und : ∃ desc, P.underlying t = some desc ∧ i.d.ok desc
def Tab.ok (P : Program) (tab : Tab) : Prop := ∀ t i, tget tab t = some i → i.ok P t

def nth : List SV → Nat → Option SV
  | [], _ => none
  | x :: _, 0 => some x
  | _ :: r, n + 1 => nth r n
def tk : List SV → Nat → Option (List SV)
  | _, 0 => some []
  | [], _ + 1 => none
  | x :: r, n + 1 => match tk r n with | some l => some (x :: l) | none => none
def seg : List SV → Nat → Nat → Option (List SV)
  | l, 0, n => tk l n
  | [], _ + 1, _ => none
  | _ :: r, o + 1, n => seg r o n
theorem nth_eq : ∀ (l : List SV) (n : Nat), nth l n = l[n]?
  | [], n => by simp [nth]
  | x :: r, 0 => by simp [nth]
  | x :: r, n + 1 => by simp [nth, nth_eq r n]
theorem tk_eq : ∀ {l : List SV} {n : Nat} {q : List SV}, tk l n = some q → q = l.take n ∧ n ≤ l.length
  | l, 0, q, h => by simp [tk] at h; simp [← h]
  | [], n + 1, q, h => by simp [tk] at h
  | x :: r, n + 1, q, h => by
    simp only [tk] at h
    split at h
    · rename_i l hl
      cases h
      obtain ⟨h1, h2⟩ := tk_eq hl
      simp [h1, h2]
    · cases h
theorem seg_eq : ∀ {l : List SV} {o n : Nat} {q : List SV}, seg l o n = some q → q = (l.drop o).take n ∧ o + n ≤ l.length
  | l, 0, n, q, h => by
    have : tk l n = some q := by cases l <;> simpa [seg] using h
    simpa using tk_eq this
  | [], o + 1, n, q, h => by simp [seg] at h
  | x :: r, o + 1, n, q, h => by
    have := seg_eq (l := r) (by simpa [seg] using h)
    refine ⟨by simpa using this.1, by simp; omega⟩

def frc : List SV → (List SV → Prop) → Prop
  | [], K => K []
  | x :: r, K => frc r fun r' => K (x :: r')
theorem frc_eq : ∀ (l : List SV) (K : List SV → Prop), frc l K = K l
  | [], K => rfl
  | x :: r, K => by simp [frc, frc_eq r]

/-- Part into two ways; a known test takes one. -/
def bcs (b : Bool) (p q : Prop) : Prop := match b with | true => p | false => q
theorem bcs_dec {c : Prop} [Decidable c] {p q : Prop} (h : c → p) (k : ¬ c → q) : bcs (decide c) p q := by
  by_cases hc : c
  · rw [decide_eq_true hc]; exact h hc
  · rw [decide_eq_false hc]; exact k hc
theorem bcs_ndec {c : Prop} [Decidable c] {p q : Prop} (h : ¬ c → p) (k : c → q) : bcs (!decide c) p q := by
  by_cases hc : c
  · rw [decide_eq_true hc]; exact k hc
  · rw [decide_eq_false hc]; exact h hc
theorem bcs_not {b : Bool} {p q : Prop} (h : bcs b q p) : bcs (!b) p q := by cases b <;> exact h
theorem bcs_intro {b : Bool} {p q : Prop} (h : b = true → p) (k : b = false → q) : bcs b p q := by cases b; exact k rfl; exact h rfl

/-- What is left to its user: an operation of which nothing is known here. -/
def ExtV (P : Program) (s : St) (o : Oper) (K : SV → Prop) : Prop :=
  ∀ (B : Bs) (N : Nat) (ρ : List Loc) (a : Act) (w : World), Holds B N ρ s a w → ∃ v x, (execOp a.eval o).run P w = .ok (.value v) w ∧ Rel ρ x v ∧ K x

def rng (k : IntKind) (x : Int) (q : Prop) : Prop := match k with
  | .i64 => (-9223372036854775808 ≤ x ∧ x ≤ 9223372036854775807) ∧ q
  | .i32 => (-2147483648 ≤ x ∧ x ≤ 2147483647) ∧ q
  | .u8 => (0 ≤ x ∧ x ≤ 255) ∧ q
  | .u64 => (0 ≤ x ∧ x ≤ 18446744073709551615) ∧ q
  | _ => False
def vcInt (op : BinOp) (k : IntKind) (a b : Int) (K : SV → Prop) : Prop :=
  match op with
  | .add => rng k (a + b) (K (.v (.int k (a + b))))
  | .sub => rng k (a - b) (K (.v (.int k (a - b))))
  | .mul => rng k (a * b) (K (.v (.int k (a * b))))
  | .quo => (0 ≤ a ∧ 0 < b) ∧ rng k a (K (.v (.int k (a / b))))
  | .rem => b ≠ 0 ∧ K (.v (.int k (a.tmod b)))
  | .eql => K (.v (.bool (a == b)))
  | .neq => K (.v (.bool (a != b)))
  | .lss => K (.v (.bool (decide (a < b))))
  | .leq => K (.v (.bool (decide (a ≤ b))))
  | .gtr => K (.v (.bool (decide (a > b))))
  | .geq => K (.v (.bool (decide (a ≥ b))))
  | _ => False

theorem wrap_i64' {x : Int} (h : -9223372036854775808 ≤ x ∧ x ≤ 9223372036854775807) : IntKind.i64.wrap x = x := by
  simp only [IntKind.wrap, IntKind.bits, IntKind.signed]
  simp
  split <;> omega
theorem wrap_i32' {x : Int} (h : -2147483648 ≤ x ∧ x ≤ 2147483647) : IntKind.i32.wrap x = x := by
  simp only [IntKind.wrap, IntKind.bits, IntKind.signed]
  simp
  split <;> omega
theorem wrap_u8' {x : Int} (h : 0 ≤ x ∧ x ≤ 255) : IntKind.u8.wrap x = x := by
  simp only [IntKind.wrap, IntKind.bits, IntKind.signed]
  simp
  omega
theorem wrap_u64' {x : Int} (h : 0 ≤ x ∧ x ≤ 18446744073709551615) : IntKind.u64.wrap x = x := by
  simp only [IntKind.wrap, IntKind.bits, IntKind.signed]
  simp
  omega

theorem rng_wrap {k : IntKind} {x : Int} {q : Prop} (h : rng k x q) : k.wrap x = x ∧ q := by
  cases k <;> first | exact h.elim | exact ⟨wrap_i64' h.1, h.2⟩ | exact ⟨wrap_i32' h.1, h.2⟩ | exact ⟨wrap_u8' h.1, h.2⟩ | exact ⟨wrap_u64' h.1, h.2⟩
/-- An operation on two integers comes to a plain value. -/
theorem vcInt_sound {P : Program} {op : BinOp} {k : IntKind} {a b : Int} {K : SV → Prop} (t : TypeId) (x y : Operand) (h : vcInt op k a b K) :
    ∃ v, (∀ w : World, (do eqGuard op t x y (.int k a) (.int k b); binOp op t (.int k a) (.int k b) : Sem Value).run P w = .ok v w) ∧ K (.v v) := by
  cases op
  case add => obtain ⟨e, hk⟩ := rng_wrap h; exact ⟨_, fun w => by simp [eqGuard_at_int, binOp, Op.intArith, e], hk⟩
  case sub => obtain ⟨e, hk⟩ := rng_wrap h; exact ⟨_, fun w => by simp [eqGuard_at_int, binOp, Op.intArith, e], hk⟩
  case mul => obtain ⟨e, hk⟩ := rng_wrap h; exact ⟨_, fun w => by simp [eqGuard_at_int, binOp, Op.intArith, e], hk⟩
  case quo =>
    obtain ⟨⟨h1, h2⟩, h3⟩ := h
    obtain ⟨e, hk⟩ := rng_wrap h3
    have e2 : k.wrap (a.tdiv b) = a / b := by
      rw [Int.tdiv_eq_ediv_of_nonneg h1]
      have hle : a / b ≤ a := Int.ediv_le_self b h1
      have hge : 0 ≤ a / b := Int.ediv_nonneg h1 (by omega)
      have : ∀ x : Int, 0 ≤ x → x ≤ a → k.wrap x = x := by
        intro x hx0 hxa
        cases k <;> first | exact h3.elim | exact wrap_i64' ⟨by omega, by have := h3.1; omega⟩ | exact wrap_i32' ⟨by omega, by have := h3.1; omega⟩ | exact wrap_u8' ⟨by omega, by have := h3.1; omega⟩ | exact wrap_u64' ⟨by omega, by have := h3.1; omega⟩
      exact this _ hge hle
    exact ⟨_, fun w => by simp [eqGuard_at_int, binOp, Op.intDiv, show b ≠ 0 by omega, e2], hk⟩
  case rem => obtain ⟨h1, hk⟩ := h; exact ⟨_, fun w => by simp [eqGuard_at_int, binOp, Op.intDiv, h1], hk⟩
  case eql => exact ⟨_, fun w => by simp [eqGuard_at_int, binOp, Op.intCmp], h⟩
  case neq => exact ⟨_, fun w => by simp [eqGuard_at_int, binOp, Op.intCmp], h⟩
  case lss => exact ⟨_, fun w => by simp [eqGuard_at_int, binOp, Op.intCmp], h⟩
  case leq => exact ⟨_, fun w => by simp [eqGuard_at_int, binOp, Op.intCmp], h⟩
  case gtr => exact ⟨_, fun w => by simp [eqGuard_at_int, binOp, Op.intCmp], h⟩
  case geq => exact ⟨_, fun w => by simp [eqGuard_at_int, binOp, Op.intCmp], h⟩
  all_goals exact h.elim
end Go.Proofs.Ytdabahipeepheaa.Vc

namespace Go.Proofs.Ytdabahipeepheaa.Vc
open Go Go.RowKit

def kB : IntKind → IntKind → Bool
  | .i8, .i8 => true | .i16, .i16 => true | .i32, .i32 => true | .i64, .i64 => true
  | .u8, .u8 => true | .u16, .u16 => true | .u32, .u32 => true | .u64, .u64 => true
  | _, _ => false
theorem kB_eq {k k' : IntKind} (h : kB k k' = true) : k = k' := by cases k <;> cases k' <;> first | rfl | cases h

def cont : Ch → Nat → (List SV → Prop) → Prop
  | .non, _, _ => False
  | .box _ l, i, K => bif Nat.beq i 0 then K l else False
  | .ro _ n f, i, K => i < n ∧ frc (f i) K
  | .own _ _ n f, i, K => i < n ∧ frc (f i) K
def ldL (tab : Tab) (T : Nat) (l : List SV) (o : Nat) (K : SV → Prop) : Prop :=
  match tget tab T with
  | none => False
  | some i => match i.d with
    | .st _ => match seg l o i.size with | some q => K (.a q) | none => False
    | .arr _ _ => match seg l o i.size with | some q => K (.a q) | none => False
    | .ifc => match nth l o with | some x => K x | none => False
    | .sl _ => match nth l o with | some x => K x | none => False
    | .str => match nth l o with | some x => K x | none => False
    | .int _ => match nth l o with | some x => K x | none => False
    | .sc => match nth l o with | some x => K x | none => False
def nthP : List (Nat × Nat) → Nat → Option (Nat × Nat)
  | [], _ => none
  | x :: _, 0 => some x
  | _ :: r, n + 1 => nthP r n
theorem nthP_eq : ∀ (l : List (Nat × Nat)) (n : Nat), nthP l n = l[n]?
  | [], n => by simp [nthP]
  | x :: r, 0 => by simp [nthP]
  | x :: r, n + 1 => by simp [nthP, nthP_eq r n]

def bt (b : ByteArray) (k : Int) : Int := ((b.data.toList.getD k.toNat 0).toNat : Int)
def setSeg : List SV → Nat → List SV → List SV
  | l, _, [] => l
  | l, o, x :: r => setSeg (l.set o x) (o + 1) r
/-- The parts of a struct or array that is made. -/
def fillS (place : Nat → Option (Nat × Nat × Bool)) (s : St) : List (Nat × Operand) → List SV → (List SV → Prop) → Prop
  | [], l, K => frc l K
  | (i, x) :: r, l, K => match place i with
    | none => False
    | some (o, n, agg) => match agg with
      | true => match ev s x with
        | .a q => bif Nat.beq q.length n && Nat.ble (o + n) l.length then fillS place s r (setSeg l o q) K else False
        | _ => False
      | false => bif Nat.beq n 1 && Nat.ble (o + 1) l.length && (ev s x).one then fillS place s r (l.set o (ev s x)) K else False
def allT (tab : Tab) : List (Nat × Nat) → Bool
  | [] => true
  | (_, ty) :: r => match tget tab ty with | some _ => allT tab r | none => false

def bnds (s : St) (lo hi : Option Operand) (n : Nat) (go : Int → Int → Prop) : Prop :=
  match lo, hi with
  | none, none => go 0 n
  | some l, none => match ev s l with | .v (.int _ l) => go l n | _ => False
  | none, some h => match ev s h with | .v (.int _ h) => go 0 h | _ => False
  | some l, some h => match ev s l, ev s h with | .v (.int _ l), .v (.int _ h) => go l h | _, _ => False

def vcVal (P : Program) (tab : Tab) (s : St) (o : Oper) (K : SV → Prop) : Prop :=
  match o.op with
  | .move x => K (ev s x)
  | .assign x => K (ev s x)
  | .pick c a b => match ev s c with
    | .v (.bool c) => bcs c (K (ev s a)) (K (ev s b))
    | _ => False
  | .binOp op T x y _ => match ev s x, ev s y with
    | .v (.int k a), .v (.int k' b) => bif kB k k' then vcInt op k a b K else False
    | .v (.string a), .v (.string b) => match op with
      | .add => a.size + b.size ≤ 9223372036854775807 ∧ K (.v (.string (a ++ b)))
      | .eql => K (.v (.bool (a.toList == b.toList)))
      | .neq => K (.v (.bool (!(a.toList == b.toList))))
      | _ => ExtV P s o K
    | .v (.iface _ _), .v .nilIface => match tget tab T with
      | some i => match i.d with
        | .ifc => match op with
          | .eql => K (.v (.bool false))
          | .neq => K (.v (.bool true))
          | _ => False
        | _ => False
      | none => False
    | .v .nilIface, .v .nilIface => match y with
      | .const _ => match tget tab T with
        | some i => match i.d with
          | .ifc => match op with
            | .eql => K (.v (.bool true))
            | .neq => K (.v (.bool false))
            | _ => False
          | _ => False
        | none => False
      | _ => False
    | _, _ => ExtV P s o K
  | .unOp op _ x => match op, ev s x with
    | .not, .v (.bool b) => K (.v (.bool (!b)))
    | .neg, .v (.int k n) => rng k (0 - n) (K (.v (.int k (0 - n))))
    | _, _ => ExtV P s o K
  | .fieldAddr T x k => match ev s x with
    | .p c i d => match tget tab T with
      | some ti => match ti.d with
        | .st fs => match nthP fs k with
          | some (off, ty) => match tget tab ty with
            | some tj => bif Nat.beq tj.size 0 then False else K (.p c i (d + off))
            | none => False
          | none => False
        | _ => False
      | none => False
    | _ => ExtV P s o K
  | .indexAddr T x y => match ev s x, ev s y with
    | .s c i n, .v (.int _ k) => match tget tab T with
      | some ti => match ti.d with
        | .sl e => match tget tab e with
          | some te => match mget s.mem c with
            | .ro sz _ _ => bif Nat.beq sz te.size then (0 ≤ k ∧ k < (n : Int)) ∧ K (.p c (i + k.toNat) 0) else False
            | .own _ sz _ _ => bif Nat.beq sz te.size then (0 ≤ k ∧ k < (n : Int)) ∧ K (.p c (i + k.toNat) 0) else False
            | _ => False
          | none => False
        | _ => False
      | none => False
    | .o c, .v (.int _ k) => match tget tab T with
      | some ti => match ti.d with
        | .sl e => match tget tab e with
          | some te => match mget s.mem c with
            | .own _ sz n _ => bif Nat.beq sz te.size then (0 ≤ k ∧ k < (n : Int)) ∧ K (.p c k.toNat 0) else False
            | _ => False
          | none => False
        | _ => False
      | none => False
    | .p c i d, .v (.int _ k) => match tget tab T with
      | some ti => match ti.d with
        | .arr n e => match tget tab e with
          | some te => (0 ≤ k ∧ k < (n : Int)) ∧ K (.p c i (d + k.toNat * te.size))
          | none => False
        | _ => False
      | none => False
    | _, _ => ExtV P s o K
  | .load T x => match ev s x with
    | .p c i d => cont (mget s.mem c) i fun l => ldL tab T l d K
    | _ => ExtV P s o K
  | .field T x k => match ev s x with
    | .a l => match tget tab T with
      | some ti => match ti.d with
        | .st fs => match nthP fs k with
          | some (off, ty) => ldL tab ty l off K
          | none => False
        | _ => False
      | none => False
    | _ => ExtV P s o K
  | .index T x y => match ev s x, ev s y with
    | .v (.string b), .v (.int _ k) => match tget tab T with
      | some ti => match ti.d with
        | .str => (0 ≤ k ∧ k < (b.size : Int)) ∧ K (.v (.int .u8 (bt b k)))
        | _ => False
      | none => False
    | .a l, .v (.int _ k) => match tget tab T with
      | some ti => match ti.d with
        | .arr n e => match tget tab e with
          | some te => (0 ≤ k ∧ k < (n : Int)) ∧ ldL tab e l (k.toNat * te.size) K
          | none => False
        | _ => False
      | none => False
    | _, _ => ExtV P s o K
  | .slice T x lo hi mx => match mx with
    | some _ => ExtV P s o K
    | none => match tget tab T with
      | none => False
      | some ti => match ti.d with
        | .str => match ev s x with
          | .v (.string b) => bnds s lo hi b.size fun l h => (0 ≤ l ∧ l ≤ h ∧ h ≤ (b.size : Int)) ∧ K (.v (.string (b.extract l.toNat h.toNat)))
          | _ => ExtV P s o K
        | .sl e => match tget tab e with
          | none => False
          | some te =>
            let goc (c i n : Nat) : Prop := bnds s lo hi n fun l h => (0 ≤ l ∧ l ≤ h ∧ h ≤ (n : Int)) ∧ K (.s c (i + l.toNat) (h.toNat - l.toNat))
            match ev s x with
            | .s c i n => match mget s.mem c with
              | .ro sz _ _ => bif Nat.beq sz te.size then goc c i n else False
              | .own _ sz _ _ => bif Nat.beq sz te.size then goc c i n else False
              | _ => False
            | .o c => match mget s.mem c with
              | .own _ sz n _ => bif Nat.beq sz te.size then goc c 0 n else False
              | _ => False
            | _ => ExtV P s o K
        | _ => ExtV P s o K
  | .extract x k => match ev s x with
    | .t l => match nth l k with | some y => K y | none => False
    | _ => ExtV P s o K
  | .makeInterface T x => match ev s x with
    | .v y => match tget tab T with
      | some ti => match ti.d with
        | .ifc => False
        | _ => K (.v (.iface T y))
      | none => False
    | _ => ExtV P s o K
  | .makeFunc fn fs cs => match fn with
    | .func g => match fs.toList with
      | [] => K (.f g (cs.toList.map (ev s)))
      | _ => ExtV P s o K
    | _ => ExtV P s o K
  | .nilCheck x => match ev s x with
    | .p c i d => K (.p c i d)
    | .f g l => K (.f g l)
    | _ => ExtV P s o K
  | .build T parts => match tget tab T with
    | some ti => match ti.d with
      | .st fs => bif allT tab fs then fillS (fun k => match nthP fs k with | some (off, ty) => (match tget tab ty with | some tj => some (off, tj.size, tj.d.agg) | none => none) | none => none) s parts.toList (ti.zero.map .v) (fun l => K (.a l)) else False
      | .arr _ e => match tget tab e with
        | some te => fillS (fun k => some (k * te.size, te.size, te.d.agg)) s parts.toList (ti.zero.map .v) fun l => K (.a l)
        | none => False
      | _ => False
    | none => False
  | .convert src T x => match tget tab src, tget tab T, ev s x with
    | some _, some ti, .v (.int _ n) => match ti.d with
      | .int k => rng k n (K (.v (.int k n)))
      | _ => ExtV P s o K
    | _, _, _ => ExtV P s o K
  | .call c => match c.callee with
    | .builtin .len => match c.args.toList, c.argTypes.toList with
      | [x], [T] => match tget tab T with
        | none => ExtV P s o K
        | some ti => match ti.d with
          | .sl _ => match ev s x with
            | .s _ _ n => K (.v (.int .i64 n))
            | .o c => match mget s.mem c with
              | .own _ _ n _ => K (.v (.int .i64 n))
              | _ => False
            | .v (.slice _ n _) => K (.v (.int .i64 n))
            | _ => ExtV P s o K
          | .str => match ev s x with
            | .v (.string b) => K (.v (.int .i64 b.size))
            | _ => ExtV P s o K
          | _ => ExtV P s o K
      | _, _ => ExtV P s o K
    | .builtin .min => match c.args.toList with
      | [x, y] => match ev s x, ev s y with
        | .v (.int k a), .v (.int _ b) => K (.v (.int k (min a b)))
        | _, _ => ExtV P s o K
      | _ => ExtV P s o K
    | .builtin .max => match c.args.toList with
      | [x, y] => match ev s x, ev s y with
        | .v (.int k a), .v (.int _ b) => K (.v (.int k (max a b)))
        | _, _ => ExtV P s o K
      | _ => ExtV P s o K
    | _ => ExtV P s o K
  | _ => ExtV P s o K
end Go.Proofs.Ytdabahipeepheaa.Vc

namespace Go.Proofs.Ytdabahipeepheaa.Vc
open Go Go.RowKit

theorem tab_und {P : Program} {tab : Tab} (ht : Tab.ok P tab) {t : Nat} {i : TI} (h : tget tab t = some i) : ∃ desc, P.underlying t = some desc ∧ i.d.ok desc := (ht t i h).und
theorem tab_size {P : Program} {tab : Tab} (ht : Tab.ok P tab) {t : Nat} {i : TI} (h : tget tab t = some i) (w : World) : (sizeOf t).run P w = .ok i.size w := by
  obtain ⟨j, z, h1, _, _, h4, _⟩ := (ht t i h).info
  simp [sizeOf, typeInfo, h1, h4]
theorem tab_zero {P : Program} {tab : Tab} (ht : Tab.ok P tab) {t : Nat} {i : TI} (h : tget tab t = some i) (w : World) : ∃ z, (zeroValue t).run P w = .ok z w ∧ z.cells.toList = i.zero := by
  obtain ⟨j, z, h1, h2, h3, _, _⟩ := (ht t i h).info
  exact ⟨z, by simp [zeroValue, typeInfo, h1, h2], h3⟩

theorem run_isAgg {P : Program} {tab : Tab} (ht : Tab.ok P tab) {t : Nat} {i : TI} (h : tget tab t = some i) (w : World) : (isAgg t).run P w = .ok i.d.agg w := by
  obtain ⟨desc, hu, hd⟩ := tab_und ht h
  cases hi : i.d with
  | sl e => rw [hi] at hd; simp only [TD.ok] at hd; subst hd; simp [isAgg, run_underlying hu, TD.agg]
  | st fs => rw [hi] at hd; simp only [TD.ok] at hd; obtain ⟨g, rfl, _⟩ := hd; simp [isAgg, run_underlying hu, TD.agg]
  | arr n e => rw [hi] at hd; simp only [TD.ok] at hd; subst hd; simp [isAgg, run_underlying hu, TD.agg]
  | str => rw [hi] at hd; simp only [TD.ok] at hd; subst hd; simp [isAgg, run_underlying hu, TD.agg]
  | int k => rw [hi] at hd; simp only [TD.ok] at hd; subst hd; simp [isAgg, run_underlying hu, TD.agg]
  | ifc => rw [hi] at hd; simp only [TD.ok] at hd; obtain ⟨ms, rfl⟩ := hd; simp [isAgg, run_underlying hu, TD.agg]
  | sc =>
    rw [hi] at hd; simp only [TD.ok] at hd
    cases desc <;> first | exact hd.elim | simp [isAgg, run_underlying hu, TD.agg]

theorem run_loadCellsFrom {P : Program} (w : World) (b : Nat) : ∀ (n i o : Nat) (acc : Array Value) (vs : List Value), vs.length = n → (∀ j u, vs[j]? = some u → w.cell? ⟨b, o + i + j, none⟩ = some u) →
    (loadCellsFrom ⟨b, o, none⟩ i n acc).run P w = .ok (acc ++ vs.toArray) w
  | 0, i, o, acc, vs, hl, hc => by
    have : vs = [] := List.eq_nil_of_length_eq_zero hl
    subst this; simp [loadCellsFrom]
  | n + 1, i, o, acc, vs, hl, hc => by
    match vs, hl with
    | u :: r, hl =>
      have h0 := hc 0 u (by simp)
      have ha : (⟨b, o, none⟩ : Addr).add i = ⟨b, o + i, none⟩ := Addr.add_lit b o i
      have ih := run_loadCellsFrom (P := P) w b n (i + 1) o (acc.push u) r (by simpa using hl) (fun j u' hu => by
        have := hc (j + 1) u' (by simpa using hu)
        rwa [show o + i + (j + 1) = o + (i + 1) + j by omega] at this)
      simp only [loadCellsFrom, ha]
      simp only [Nat.add_zero] at h0
      simp [h0, ih]
theorem run_loadCells {P : Program} (w : World) (b o : Nat) (vs : List Value) (hc : ∀ j u, vs[j]? = some u → w.cell? ⟨b, o + j, none⟩ = some u) :
    (loadCells ⟨b, o, none⟩ vs.length).run P w = .ok vs.toArray w := by
  have := run_loadCellsFrom (P := P) w b vs.length 0 o #[] vs rfl (by simpa using hc)
  simpa [loadCells] using this

/-- What a chunk holds there. -/
theorem cont_sound {B : Bs} {ρ : List Loc} {m : Mem} {w : World} (h : MSat B ρ m w) {c i : Nat} {K : List SV → Prop} (hk : cont (mget m c) i K) :
    ∃ l L vs, K l ∧ ρ[c]? = some L ∧ RelL ρ l vs ∧ (∀ x ∈ vs, x.oneCell' = true) ∧ ∀ j u, vs[j]? = some u → w.cell? ⟨L.blk, L.off + i * L.sz + j, none⟩ = some u := by
  have hc := h.ch c
  cases e : mget m c with
  | non => rw [e] at hk; exact hk.elim
  | box t l =>
    rw [e] at hk hc
    simp only [cont] at hk
    cases hb : Nat.beq i 0 with
    | false => rw [hb] at hk; exact hk.elim
    | true =>
      rw [hb] at hk
      have := Nat.eq_of_beq_eq_true hb
      subst this
      obtain ⟨L, vs, h1, h2, h3, h4, h5, h6, _⟩ := hc
      refine ⟨l, L, vs, hk, h1, h5, h6, fun j u hu => ?_⟩
      rw [h2]
      simp only [Nat.zero_mul, Nat.zero_add]
      simp [World.cell?, h4, hu]
  | ro sz n f =>
    rw [e] at hk hc
    obtain ⟨hi, hk⟩ := hk
    rw [frc_eq] at hk
    obtain ⟨L, h1, h2, h3, h4⟩ := hc
    obtain ⟨vs, r, q1, q2, q3⟩ := h4 i hi
    exact ⟨f i, L, vs, hk, h1, r, q2, fun j u hu => by rw [h2]; exact q3 j u hu⟩
  | own et sz n f =>
    rw [e] at hk hc
    obtain ⟨hi, hk⟩ := hk
    rw [frc_eq] at hk
    obtain ⟨L, vs, h1, h2, h3, h4, h5, h6, h7⟩ := hc
    refine ⟨f i, L, _, hk, h1, h7 i hi, fun x hx => h6 x (List.mem_of_mem_drop (List.mem_of_mem_take hx)), fun j u hu => ?_⟩
    have hj : j < sz := by
      rcases Nat.lt_or_ge j sz with hlt | hge
      · exact hlt
      · rw [List.getElem?_take, if_neg (by omega)] at hu; cases hu
    rw [List.getElem?_take_of_lt hj, List.getElem?_drop] at hu
    have hpos : 0 < n := by omega
    rcases h4.2 with ⟨_, hn⟩ | ⟨g, cap, cur, hv, _⟩
    · omega
    · have hg : L.own.ownBlock = some g := by rw [hv]; rfl
      have hc := h4.cells (g := g) hg (i * sz + j) u hu
      rw [Addr.add_lit] at hc
      rw [h3, h2, (h5 g hg).1]
      simpa using hc

theorem ldL_sound2 {P : Program} {tab : Tab} (ht : Tab.ok P tab) {T : Nat} {l : List SV} {o : Nat} {K : SV → Prop} (hk : ldL tab T l o K) {ρ : List Loc} {vs : List Value} (hr : RelL ρ l vs) (h1 : ∀ x ∈ vs, x.oneCell' = true)
    (b p : Nat) : ∃ v x, (∀ w : World, (∀ j u, vs[j]? = some u → w.cell? ⟨b, p + j, none⟩ = some u) → (loadVar T ⟨b, p + o, none⟩).run P w = .ok v w) ∧ Rel ρ x v ∧ K x := by
  unfold ldL at hk
  cases hT : tget tab T with
  | none => rw [hT] at hk; exact hk.elim
  | some i =>
    rw [hT] at hk
    simp only at hk
    have hag0 := fun w => run_isAgg ht hT w
    have hsz0 := fun w => tab_size ht hT w
    have agg : i.d.agg = true → (match seg l o i.size with | some q => K (.a q) | none => False) → ∃ v x, (∀ w : World, (∀ j u, vs[j]? = some u → w.cell? ⟨b, p + j, none⟩ = some u) → (loadVar T ⟨b, p + o, none⟩).run P w = .ok v w) ∧ Rel ρ x v ∧ K x := by
      intro ha hk
      cases hs : seg l o i.size with
      | none => rw [hs] at hk; exact hk.elim
      | some q =>
        rw [hs] at hk
        obtain ⟨rfl, hle⟩ := seg_eq hs
        have hr' := (hr.drop o).take i.size
        have hlen : ((vs.drop o).take i.size).length = i.size := by
          have := hr.length
          simp; omega
        refine ⟨.agg ((vs.drop o).take i.size).toArray, _, fun w hc => ?_, ?_, hk⟩
        · have hag := hag0 w
          rw [ha] at hag
          have hsz := hsz0 w
          have hl := run_loadCells (P := P) w b (p + o) ((vs.drop o).take i.size) (fun j u hu => by
            have hj : j < i.size := by
              rcases Nat.lt_or_ge j i.size with hlt | hge
              · exact hlt
              · rw [List.getElem?_take, if_neg (by omega)] at hu; cases hu
            rw [List.getElem?_take_of_lt hj, List.getElem?_drop] at hu
            have := hc (o + j) u hu
            rwa [← Nat.add_assoc] at this)
          rw [hlen] at hl
          simp [loadVar, hag, hsz, hl]
        · simp only [Rel]
          exact ⟨_, rfl, hr', fun x hx => h1 x (List.mem_of_mem_drop (List.mem_of_mem_take hx))⟩
    have one : i.d.agg = false → (match nth l o with | some x => K x | none => False) → ∃ v x, (∀ w : World, (∀ j u, vs[j]? = some u → w.cell? ⟨b, p + j, none⟩ = some u) → (loadVar T ⟨b, p + o, none⟩).run P w = .ok v w) ∧ Rel ρ x v ∧ K x := by
      intro ha hk
      cases hs : nth l o with
      | none => rw [hs] at hk; exact hk.elim
      | some x =>
        rw [hs] at hk
        rw [nth_eq] at hs
        obtain ⟨v, hv, hx⟩ := hr.get hs
        exact ⟨v, x, fun w hc => by have hag := hag0 w; rw [ha] at hag; simp [loadVar, hag, hc o v hv], hx, hk⟩
    cases hi : i.d with
    | sl e => rw [hi] at hk; exact one (by rw [hi]; rfl) hk
    | st fs => rw [hi] at hk; exact agg (by rw [hi]; rfl) hk
    | arr n e => rw [hi] at hk; exact agg (by rw [hi]; rfl) hk
    | str => rw [hi] at hk; exact one (by rw [hi]; rfl) hk
    | int k => rw [hi] at hk; exact one (by rw [hi]; rfl) hk
    | ifc => rw [hi] at hk; exact one (by rw [hi]; rfl) hk
    | sc => rw [hi] at hk; exact one (by rw [hi]; rfl) hk

theorem ldL_sound {P : Program} {tab : Tab} (ht : Tab.ok P tab) {T : Nat} {l : List SV} {o : Nat} {K : SV → Prop} (hk : ldL tab T l o K) {ρ : List Loc} {vs : List Value} (hr : RelL ρ l vs) (h1 : ∀ x ∈ vs, x.oneCell' = true)
    {w : World} {b p : Nat} (hc : ∀ j u, vs[j]? = some u → w.cell? ⟨b, p + j, none⟩ = some u) : ∃ v x, (loadVar T ⟨b, p + o, none⟩).run P w = .ok v w ∧ Rel ρ x v ∧ K x := by
  obtain ⟨v, x, q1, q2, q3⟩ := ldL_sound2 ht hk hr h1 b p
  exact ⟨v, x, q1 w hc, q2, q3⟩

/-- A part of a struct or an array that lies in no memory. -/
theorem part_sound {P : Program} {tab : Tab} (ht : Tab.ok P tab) {T : Nat} {l : List SV} {o : Nat} {K : SV → Prop} (hk : ldL tab T l o K) {ρ : List Loc} {vs : List Value} (hr : RelL ρ l vs) (h1 : ∀ x ∈ vs, x.oneCell' = true)
    (w : World) : ∃ v x, (part T vs.toArray o).run P w = .ok v w ∧ Rel ρ x v ∧ K x := by
  unfold ldL at hk
  cases hT : tget tab T with
  | none => rw [hT] at hk; exact hk.elim
  | some i =>
    rw [hT] at hk
    simp only at hk
    have hag := run_isAgg ht hT w
    have hsz := tab_size ht hT w
    have agg : i.d.agg = true → (match seg l o i.size with | some q => K (.a q) | none => False) → ∃ v x, (part T vs.toArray o).run P w = .ok v w ∧ Rel ρ x v ∧ K x := by
      intro ha hk
      rw [ha] at hag
      cases hs : seg l o i.size with
      | none => rw [hs] at hk; exact hk.elim
      | some q =>
        rw [hs] at hk
        obtain ⟨rfl, hle⟩ := seg_eq hs
        have hr' := (hr.drop o).take i.size
        refine ⟨.agg ((vs.drop o).take i.size).toArray, _, ?_, ?_, hk⟩
        · simp only [part, Sem.run_bind, hag, hsz, Result.andThen_ok, if_true]
          simp [List.take_drop]
        · simp only [Rel]
          exact ⟨_, rfl, hr', fun x hx => h1 x (List.mem_of_mem_drop (List.mem_of_mem_take hx))⟩
    have one : i.d.agg = false → (match nth l o with | some x => K x | none => False) → ∃ v x, (part T vs.toArray o).run P w = .ok v w ∧ Rel ρ x v ∧ K x := by
      intro ha hk
      rw [ha] at hag
      cases hs : nth l o with
      | none => rw [hs] at hk; exact hk.elim
      | some x =>
        rw [hs] at hk
        rw [nth_eq] at hs
        obtain ⟨v, hv, hx⟩ := hr.get hs
        exact ⟨v, x, by simp [part, hag, hv], hx, hk⟩
    cases hi : i.d with
    | sl e => rw [hi] at hk; exact one (by rw [hi]; rfl) hk
    | st fs => rw [hi] at hk; exact agg (by rw [hi]; rfl) hk
    | arr n e => rw [hi] at hk; exact agg (by rw [hi]; rfl) hk
    | str => rw [hi] at hk; exact one (by rw [hi]; rfl) hk
    | int k => rw [hi] at hk; exact one (by rw [hi]; rfl) hk
    | ifc => rw [hi] at hk; exact one (by rw [hi]; rfl) hk
    | sc => rw [hi] at hk; exact one (by rw [hi]; rfl) hk
end Go.Proofs.Ytdabahipeepheaa.Vc

namespace Go.Proofs.Ytdabahipeepheaa.Vc
open Go Go.RowKit

section
variable {P : Program} {tab : Tab} {B : Bs} {N : Nat} {ρ : List Loc} {s : St} {a : Act} {w : World} {K : SV → Prop} {dst : Option Nat} {ty : TypeId} {pos : String} {after : Array Edge} {guard : Option (Nat × Bool)}

/-- What is to be shown of each. -/
def Good (P : Program) (ρ : List Loc) (a : Act) (w : World) (o : Oper) (K : SV → Prop) : Prop := ∃ v x, (execOp a.eval o).run P w = .ok (.value v) w ∧ Rel ρ x v ∧ K x

theorem good_val {o : Oper} {q : Sem Value} (hq : execOp a.eval o = (do pure (.value (← q)))) {v : Value} {x : SV} (hr : q.run P w = .ok v w) (hx : Rel ρ x v) (hk : K x) : Good P ρ a w o K :=
  ⟨v, x, by rw [hq]; simp [hr], hx, hk⟩

theorem rel_p {c i o : Nat} {y : Value} (h : Rel ρ (.p c i o) y) : ∃ L, ρ[c]? = some L ∧ y = .pointer (some ⟨L.blk, L.off + i * L.sz + o, none⟩) := by simpa only [Rel] using h
theorem rel_v {x y : Value} (h : Rel ρ (.v x) y) : y = x := by simpa only [Rel] using h
theorem rel_s {c i n : Nat} {y : Value} (h : Rel ρ (.s c i n) y) : ∃ L A k, ρ[c]? = some L ∧ y = .slice A n k ∧ n ≤ k ∧ k ≤ maxLen ∧ (0 < n → A = some ⟨L.blk, L.off + i * L.sz, none⟩) := by simpa only [Rel] using h
theorem rel_o {c : Nat} {y : Value} (h : Rel ρ (.o c) y) : ∃ L, ρ[c]? = some L ∧ y = L.own := by
  simp only [Rel] at h
  obtain ⟨L, h1, h2, _⟩ := h
  exact ⟨L, h1, h2⟩
theorem rel_a {l : List SV} {y : Value} (h : Rel ρ (.a l) y) : ∃ vs, y = .agg vs.toArray ∧ RelL ρ l vs ∧ ∀ x ∈ vs, x.oneCell' = true := by simpa only [Rel] using h
theorem rel_t {l : List SV} {y : Value} (h : Rel ρ (.t l) y) : ∃ vs, y = .tuple vs.toArray ∧ RelL ρ l vs := by simpa only [Rel] using h
theorem rel_f {g : Nat} {l : List SV} {y : Value} (h : Rel ρ (.f g l) y) : ∃ vs, y = .func (.func g) #[] vs.toArray ∧ RelL ρ l vs := by simpa only [Rel] using h

theorem s_fieldAddr (ht : Tab.ok P tab) (H : Holds B N ρ s a w) {T k : Nat} {x : Operand} (h : vcVal P tab s ⟨dst, .fieldAddr T x k, ty, pos, after, guard⟩ K) : Good P ρ a w ⟨dst, .fieldAddr T x k, ty, pos, after, guard⟩ K := by
  simp only [vcVal] at h
  have hx := H.ev x
  split at h
  · rename_i c i d he
    rw [he] at hx
    obtain ⟨L, hL, hv⟩ := rel_p hx
    split at h
    · rename_i ti hT
      split at h
      · rename_i fs hfs
        split at h
        · rename_i off tt hn
          split at h
          · rename_i tj hj
            cases hb : Nat.beq tj.size 0 with
            | true => rw [hb] at h; exact h.elim
            | false =>
              rw [hb] at h
              obtain ⟨desc, hu, hd⟩ := tab_und ht hT
              rw [hfs] at hd
              obtain ⟨g, rfl, hg⟩ := hd
              rw [nthP_eq, ← hg, List.getElem?_map] at hn
              cases hf : g.toList[k]? with
              | none => rw [hf] at hn; simp at hn
              | some f =>
                rw [hf] at hn
                simp at hn
                obtain ⟨rfl, rfl⟩ := hn
                have hf' : g[k]? = some f := by simpa using hf
                have hsz := tab_size ht hj w
                have hne : tj.size ≠ 0 := fun e => by rw [e] at hb; simp [Nat.beq] at hb
                refine good_val (q := Instr.fieldAt T (a.eval x) k) rfl (v := .pointer (some ⟨L.blk, L.off + i * L.sz + (d + f.offset), none⟩)) ?_ ?_ h
                · rw [hv]
                  simp [Instr.fieldAt, run_underlying hu, hf', Instr.sureAddr, fieldPlace, hsz, hne, Addr.add_lit, Nat.add_assoc]
                · simp only [Rel]; exact ⟨L, hL, rfl⟩
          · exact h.elim
        · exact h.elim
      · exact h.elim
    · exact h.elim
  · exact h B N ρ a w H

theorem s_load (ht : Tab.ok P tab) (H : Holds B N ρ s a w) {T : Nat} {x : Operand} (h : vcVal P tab s ⟨dst, .load T x, ty, pos, after, guard⟩ K) : Good P ρ a w ⟨dst, .load T x, ty, pos, after, guard⟩ K := by
  simp only [vcVal] at h
  have hx := H.ev x
  split at h
  · rename_i c i d he
    rw [he] at hx
    obtain ⟨L, hL, hv⟩ := rel_p hx
    obtain ⟨l, L', vs, hl, hL', hr, h1, hc⟩ := cont_sound H.mem h
    rw [hL] at hL'; cases hL'
    obtain ⟨v, y, hrun, hy, hk⟩ := ldL_sound ht hl hr h1 hc
    exact good_val (q := Instr.loadAt T (a.eval x)) rfl (by rw [hv]; simp [Instr.loadAt, Instr.sureAddr, hrun]) hy hk
  · exact h B N ρ a w H

theorem s_field (ht : Tab.ok P tab) (H : Holds B N ρ s a w) {T k : Nat} {x : Operand} (h : vcVal P tab s ⟨dst, .field T x k, ty, pos, after, guard⟩ K) : Good P ρ a w ⟨dst, .field T x k, ty, pos, after, guard⟩ K := by
  simp only [vcVal] at h
  have hx := H.ev x
  split at h
  · rename_i l he
    rw [he] at hx
    obtain ⟨vs, hv, hr, h1⟩ := rel_a hx
    split at h
    · rename_i ti hT
      split at h
      · rename_i fs hfs
        split at h
        · rename_i off tt hn
          obtain ⟨desc, hu, hd⟩ := tab_und ht hT
          rw [hfs] at hd
          obtain ⟨g, rfl, hg⟩ := hd
          rw [nthP_eq, ← hg, List.getElem?_map] at hn
          cases hf : g.toList[k]? with
          | none => rw [hf] at hn; simp at hn
          | some f =>
            rw [hf] at hn
            simp at hn
            obtain ⟨rfl, rfl⟩ := hn
            have hf' : g[k]? = some f := by simpa using hf
            obtain ⟨v, y, hrun, hy, hk⟩ := part_sound ht h hr h1 w
            exact good_val (q := Instr.field T (a.eval x) k) rfl (by rw [hv]; simp [Instr.field, run_underlying hu, hf', asAgg, hrun]) hy hk
        · exact h.elim
      · exact h.elim
    · exact h.elim
  · exact h B N ρ a w H

theorem bt_get {b : ByteArray} {k : Int} (h0 : 0 ≤ k) (h1 : k < (b.size : Int)) : b[k.toNat]? = some (b.data.toList.getD k.toNat 0) := by
  have hlt : k.toNat < b.size := by omega
  have hlt' : k.toNat < b.data.toList.length := by simpa using hlt
  rw [List.getD_eq_getElem?_getD, List.getElem?_eq_getElem hlt']
  simp only [Option.getD_some]
  rw [getElem?_pos b k.toNat hlt]
  rfl

theorem s_index (ht : Tab.ok P tab) (H : Holds B N ρ s a w) {T : Nat} {x y : Operand} (h : vcVal P tab s ⟨dst, .index T x y, ty, pos, after, guard⟩ K) : Good P ρ a w ⟨dst, .index T x y, ty, pos, after, guard⟩ K := by
  simp only [vcVal] at h
  have hx := H.ev x
  have hy := H.ev y
  split at h
  · rename_i b kk k he he2
    rw [he] at hx
    rw [he2] at hy
    have hv := rel_v hx
    have hu2 := rel_v hy
    split at h
    · rename_i ti hT
      split at h
      · rename_i hd0
        obtain ⟨⟨h0, h1⟩, hk⟩ := h
        obtain ⟨desc, hu, hd⟩ := tab_und ht hT
        rw [hd0] at hd
        simp only [TD.ok] at hd
        subst hd
        refine good_val (q := Instr.index T (a.eval x) (a.eval y)) rfl (v := .int .u8 (bt b k)) ?_ (by simp only [Rel]) hk
        rw [hv, hu2]
        simp [Instr.index, run_underlying hu, asIntOf, h0, bt_get h0 h1, bt]
      · exact h.elim
    · exact h.elim
  · rename_i l kk k he he2
    rw [he] at hx
    rw [he2] at hy
    obtain ⟨vs, hv, hr, hone⟩ := rel_a hx
    have hu2 := rel_v hy
    split at h
    · rename_i ti hT
      split at h
      · rename_i n e hd0
        split at h
        · rename_i te he3
          obtain ⟨⟨h0, h1⟩, hk⟩ := h
          obtain ⟨desc, hu, hd⟩ := tab_und ht hT
          rw [hd0] at hd
          simp only [TD.ok] at hd
          subst hd
          obtain ⟨v, z, hrun, hz, hk⟩ := part_sound ht hk hr hone w
          have hsz := tab_size ht he3 w
          refine good_val (q := Instr.index T (a.eval x) (a.eval y)) rfl (v := v) ?_ hz hk
          rw [hv, hu2]
          simp [Instr.index, run_underlying hu, asIntOf, h0, h1, hsz, hrun]
        · exact h.elim
      · exact h.elim
    · exact h.elim
  · exact h B N ρ a w H

theorem own_form {B : Bs} {ρ : List Loc} {w : World} {c e sz n : Nat} {f : Nat → List SV} {L : Loc} (h : ChSat B ρ w c (.own e sz n f)) (hL : ρ[c]? = some L) :
    L.sz = sz ∧ L.off = 0 ∧ ∃ A k, L.own = .slice A n k ∧ n ≤ k ∧ k ≤ maxLen ∧ (0 < n → A = some ⟨L.blk, 0, none⟩) ∧ (∀ g, A = some g → g = ⟨L.blk, 0, none⟩) := by
  obtain ⟨L', vs, h1, h2, h3, h4, h5, _⟩ := h
  rw [hL] at h1; cases h1
  refine ⟨h2, h3, ?_⟩
  rcases h4.2 with ⟨hv, hn⟩ | ⟨g, cap, cur, hv, _, _, h6, h7, _⟩
  · subst hn; exact ⟨none, 0, hv, Nat.le_refl _, Nat.zero_le _, fun h => absurd h (by omega), fun _ h => by cases h⟩
  · have : L.blk = g := (h5 g (by rw [hv]; rfl)).1
    exact ⟨_, cap, hv, h6, h7, fun _ => by rw [this], fun _ h => by cases h; rw [this]⟩

theorem s_indexAddr (ht : Tab.ok P tab) (H : Holds B N ρ s a w) {T : Nat} {x y : Operand} (h : vcVal P tab s ⟨dst, .indexAddr T x y, ty, pos, after, guard⟩ K) : Good P ρ a w ⟨dst, .indexAddr T x y, ty, pos, after, guard⟩ K := by
  simp only [vcVal] at h
  have hx := H.ev x
  have hy := H.ev y
  have sl : ∀ (e : Nat) (te : TI) (ti : TI) (A : Option Addr) (n cap : Nat) (kk : IntKind) (k : Int) (blk o sz c' i' : Nat) (L : Loc), tget tab T = some ti → ti.d = .sl e → tget tab e = some te → a.eval x = .slice A n cap → a.eval y = .int kk k →
      0 ≤ k → k < (n : Int) → A = some ⟨blk, o, none⟩ → ρ[c']? = some L → L.sz = te.size → L.blk = blk → L.off + i' * L.sz = o + k.toNat * L.sz → K (.p c' i' 0) → Good P ρ a w ⟨dst, .indexAddr T x y, ty, pos, after, guard⟩ K := by
    intro e te ti A n cap kk k blk o sz c' i' L hT hd0 he hv hu2 h0 h1 hA hL hLs hLb hLo hk
    obtain ⟨desc, hu, hd⟩ := tab_und ht hT
    rw [hd0] at hd
    simp only [TD.ok] at hd
    subst hd
    have hsz := tab_size ht he w
    refine good_val (q := Instr.indexAt T (a.eval x) (a.eval y)) rfl (v := .pointer (some ⟨blk, o + k.toNat * te.size, none⟩)) ?_ ?_ hk
    · rw [hv, hu2, hA]
      simp [Instr.indexAt, run_underlying hu, asIntOf, h0, h1, hsz, Addr.add_lit]
    · simp only [Rel]
      exact ⟨L, hL, by rw [hLb, hLo, hLs]; rfl⟩
  split at h
  · rename_i c i n kk k he he2
    rw [he] at hx
    rw [he2] at hy
    obtain ⟨L, A, cap, hL, hv, hn, hc, hA⟩ := rel_s hx
    have hu2 := rel_v hy
    split at h
    · rename_i ti hT
      split at h
      · rename_i e hd0
        split at h
        · rename_i te he3
          have fin : ∀ sz, L.sz = sz → (bif Nat.beq sz te.size then (0 ≤ k ∧ k < (n : Int)) ∧ K (.p c (i + k.toNat) 0) else False) → Good P ρ a w ⟨dst, .indexAddr T x y, ty, pos, after, guard⟩ K := by
            intro sz hs h
            cases hb : Nat.beq sz te.size with
            | false => rw [hb] at h; exact h.elim
            | true =>
              rw [hb] at h
              obtain ⟨⟨h0, h1⟩, hk⟩ := h
              have hs2 := Nat.eq_of_beq_eq_true hb
              exact sl e te ti A n cap kk k L.blk (L.off + i * L.sz) sz c (i + k.toNat) L hT hd0 he3 hv hu2 h0 h1 (hA (by omega)) hL (by omega) rfl (by rw [Nat.add_mul]; omega) hk
          have hch := H.mem.ch c
          split at h
          · rename_i sz _ _ hm
            rw [hm] at hch
            obtain ⟨L', h1, h2, _⟩ := hch
            rw [hL] at h1; cases h1
            exact fin sz h2 h
          · rename_i _ sz _ _ hm
            rw [hm] at hch
            exact fin sz (own_form hch hL).1 h
          · exact h.elim
        · exact h.elim
      · exact h.elim
    · exact h.elim
  · rename_i c kk k he he2
    rw [he] at hx
    rw [he2] at hy
    obtain ⟨L, hL, hv⟩ := rel_o hx
    have hu2 := rel_v hy
    split at h
    · rename_i ti hT
      split at h
      · rename_i e hd0
        split at h
        · rename_i te he3
          have hch := H.mem.ch c
          split at h
          · rename_i _ sz n _ hm
            rw [hm] at hch
            obtain ⟨h2, h3, A, cap, hv', hn, hc, hA, _⟩ := own_form hch hL
            cases hb : Nat.beq sz te.size with
            | false => rw [hb] at h; exact h.elim
            | true =>
              rw [hb] at h
              obtain ⟨⟨h0, h1⟩, hk⟩ := h
              have hs2 := Nat.eq_of_beq_eq_true hb
              exact sl e te ti A n cap kk k L.blk 0 sz c k.toNat L hT hd0 he3 (hv.trans hv') hu2 h0 h1 (hA (by omega)) hL (by omega) rfl (by omega) hk
          · exact h.elim
        · exact h.elim
      · exact h.elim
    · exact h.elim
  · rename_i c i d kk k he he2
    rw [he] at hx
    rw [he2] at hy
    obtain ⟨L, hL, hv⟩ := rel_p hx
    have hu2 := rel_v hy
    split at h
    · rename_i ti hT
      split at h
      · rename_i n e hd0
        split at h
        · rename_i te he3
          obtain ⟨⟨h0, h1⟩, hk⟩ := h
          obtain ⟨desc, hu, hd⟩ := tab_und ht hT
          rw [hd0] at hd
          simp only [TD.ok] at hd
          subst hd
          have hsz := tab_size ht he3 w
          refine good_val (q := Instr.indexAt T (a.eval x) (a.eval y)) rfl (v := .pointer (some ⟨L.blk, L.off + i * L.sz + (d + k.toNat * te.size), none⟩)) ?_ ?_ hk
          · rw [hv, hu2]
            simp [Instr.indexAt, run_underlying hu, asIntOf, h0, h1, hsz, Addr.add_lit, Instr.sureAddr, Nat.add_assoc]
          · simp only [Rel]; exact ⟨L, hL, rfl⟩
        · exact h.elim
      · exact h.elim
    · exact h.elim
  · exact h B N ρ a w H
end
end Go.Proofs.Ytdabahipeepheaa.Vc

namespace Go.Proofs.Ytdabahipeepheaa.Vc
open Go Go.RowKit

section
variable {P : Program} {tab : Tab} {B : Bs} {N : Nat} {ρ : List Loc} {s : St} {a : Act} {w : World} {K : SV → Prop} {dst : Option Nat} {ty : TypeId} {pos : String} {after : Array Edge} {guard : Option (Nat × Bool)}

theorem run_bounds (isSlice : Bool) (len cap : Nat) (lo hi : Option Value) (l h : Int) (hl : lo = some (.int .i64 l) ∨ (∃ k, lo = some (.int k l)) ∨ lo = none ∧ l = 0) (hh : (∃ k, hi = some (.int k h)) ∨ hi = none ∧ h = (len : Int))
    (h0 : 0 ≤ l) (h1 : l ≤ h) (h2 : h ≤ (len : Int)) (h3 : len ≤ cap) : (Instr.sliceBounds isSlice len cap lo hi none).run P w = .ok (l.toNat, h.toNat, cap) w := by
  have hl' : (∃ k, lo = some (.int k l)) ∨ lo = none ∧ l = 0 := by
    rcases hl with h | h | h
    · exact .inl ⟨_, h⟩
    · exact .inl h
    · exact .inr h
  have e1 : h ≤ (cap : Int) := by omega
  have e2 : 0 ≤ h := by omega
  have e3 : l ≤ max h 0 := by omega
  rcases hh with ⟨k, rfl⟩ | ⟨rfl, rfl⟩
  · rcases hl' with ⟨k', rfl⟩ | ⟨rfl, rfl⟩
    · cases isSlice <;> simp [Instr.sliceBounds, Instr.sliceBound, asIntOf, e1, e2, e3, h0]
    · cases isSlice <;> simp [Instr.sliceBounds, Instr.sliceBound, asIntOf, e1, e2]
  · rcases hl' with ⟨k', rfl⟩ | ⟨rfl, rfl⟩
    · simp [Instr.sliceBounds, Instr.sliceBound, asIntOf, h0, h1]
    · simp [Instr.sliceBounds]

/-- Both bounds, given or not. -/
theorem bounds_case {s : St} {ρ : List Loc} {a : Act} {w : World} (H : Holds B N ρ s a w) {lo hi : Option Operand} {n : Nat} {go : Int → Int → Prop}
    (h : bnds s lo hi n go) :
    ∃ l h, ((∃ k, lo.map a.eval = some (.int k l)) ∨ lo.map a.eval = none ∧ l = 0) ∧ ((∃ k, hi.map a.eval = some (.int k h)) ∨ hi.map a.eval = none ∧ h = (n : Int)) ∧ go l h := by
  unfold bnds at h
  cases lo with
  | none => cases hi with
    | none => exact ⟨0, n, .inr ⟨rfl, rfl⟩, .inr ⟨rfl, rfl⟩, h⟩
    | some h' =>
      simp only at h
      split at h
      · rename_i k x he
        have := H.ev h'
        rw [he] at this
        exact ⟨0, x, .inr ⟨rfl, rfl⟩, .inl ⟨k, by simp [rel_v this]⟩, h⟩
      · exact h.elim
  | some l' => cases hi with
    | none =>
      simp only at h
      split at h
      · rename_i k x he
        have := H.ev l'
        rw [he] at this
        exact ⟨x, n, .inl ⟨k, by simp [rel_v this]⟩, .inr ⟨rfl, rfl⟩, h⟩
      · exact h.elim
    | some h' =>
      simp only at h
      split at h
      · rename_i k x k2 x2 he he2
        have h1 := H.ev l'
        have h2 := H.ev h'
        rw [he] at h1
        rw [he2] at h2
        exact ⟨x, x2, .inl ⟨k, by simp [rel_v h1]⟩, .inl ⟨k2, by simp [rel_v h2]⟩, h⟩
      · exact h.elim

theorem s_slice (ht : Tab.ok P tab) (H : Holds B N ρ s a w) {T : Nat} {x : Operand} {lo hi mx : Option Operand} (h : vcVal P tab s ⟨dst, .slice T x lo hi mx, ty, pos, after, guard⟩ K) : Good P ρ a w ⟨dst, .slice T x lo hi mx, ty, pos, after, guard⟩ K := by
  simp only [vcVal] at h
  have hx := H.ev x
  split at h
  · exact h B N ρ a w H
  · split at h
    · exact h.elim
    · rename_i ti hT
      obtain ⟨desc, hu, hd⟩ := tab_und ht hT
      split at h
      · rename_i hd0
        rw [hd0] at hd
        simp only [TD.ok] at hd
        subst hd
        split at h
        · rename_i b he
          rw [he] at hx
          have hv := rel_v hx
          obtain ⟨l, h', hl, hh, ⟨h0, h1, h2⟩, hk⟩ := bounds_case (n := b.size) (go := fun l h => (0 ≤ l ∧ l ≤ h ∧ h ≤ (b.size : Int)) ∧ K (.v (.string (b.extract l.toNat h.toNat)))) H h
          refine good_val (q := Instr.sliceAt T (a.eval x) (lo.map a.eval) (hi.map a.eval) none) rfl (v := .string (b.extract l.toNat h'.toNat)) ?_ (by simp only [Rel]) hk
          rw [hv]
          have hb := run_bounds (P := P) (w := w) false b.size b.size (lo.map a.eval) (hi.map a.eval) l h' (.inr hl) hh h0 h1 h2 (Nat.le_refl _)
          simp [Instr.sliceAt, Instr.slice, run_underlying hu, hb]
        · exact h B N ρ a w H
      · rename_i e hd0
        rw [hd0] at hd
        simp only [TD.ok] at hd
        subst hd
        split at h
        · exact h.elim
        · rename_i te he3
          have hsz := tab_size ht he3 w
          have fin : ∀ (c i n : Nat) (L : Loc) (A : Option Addr) (cap : Nat), ρ[c]? = some L → L.sz = te.size → a.eval x = .slice A n cap → n ≤ cap → cap ≤ maxLen → (0 < n → A = some ⟨L.blk, L.off + i * L.sz, none⟩) →
              bnds s lo hi n (fun l h => (0 ≤ l ∧ l ≤ h ∧ h ≤ (n : Int)) ∧ K (.s c (i + l.toNat) (h.toNat - l.toNat))) →
              Good P ρ a w ⟨dst, .slice T x lo hi none, ty, pos, after, guard⟩ K := by
            intro c i n L A cap hL hs hv hn hc hA h
            obtain ⟨l, h', hl, hh, ⟨h0, h1, h2⟩, hk⟩ := bounds_case (go := fun l h => (0 ≤ l ∧ l ≤ h ∧ h ≤ (n : Int)) ∧ K (.s c (i + l.toNat) (h.toNat - l.toNat))) H h
            have hb := run_bounds (P := P) (w := w) true n cap (lo.map a.eval) (hi.map a.eval) l h' (.inr hl) hh h0 h1 h2 hn
            refine good_val (q := Instr.sliceAt T (a.eval x) (lo.map a.eval) (hi.map a.eval) none) rfl (v := .slice (if cap = l.toNat then A else A.map (·.add (l.toNat * te.size))) (h'.toNat - l.toNat) (cap - l.toNat)) ?_ ?_ hk
            · rw [hv]
              simp [Instr.sliceAt, Instr.slice, run_underlying hu, hb, hsz]
            · simp only [Rel]
              refine ⟨L, _, _, hL, rfl, by omega, by omega, fun hpos => ?_⟩
              rw [if_neg (by omega), hA (by omega)]
              simp only [Option.map_some, Addr.add_lit, ← hs, Nat.add_mul, Nat.add_assoc]
          split at h
          · rename_i c i n he
            rw [he] at hx
            obtain ⟨L, A, cap, hL, hv, hn, hc, hA⟩ := rel_s hx
            have hch := H.mem.ch c
            split at h
            · rename_i sz _ _ hm
              rw [hm] at hch
              obtain ⟨L', h1, h2, _⟩ := hch
              rw [hL] at h1; cases h1
              cases hb : Nat.beq sz te.size with
              | false => rw [hb] at h; exact h.elim
              | true => rw [hb] at h; exact fin c i n L A cap hL (h2.trans (Nat.eq_of_beq_eq_true hb)) hv hn hc hA h
            · rename_i _ sz _ _ hm
              rw [hm] at hch
              cases hb : Nat.beq sz te.size with
              | false => rw [hb] at h; exact h.elim
              | true => rw [hb] at h; exact fin c i n L A cap hL ((own_form hch hL).1.trans (Nat.eq_of_beq_eq_true hb)) hv hn hc hA h
            · exact h.elim
          · rename_i c he
            rw [he] at hx
            obtain ⟨L, hL, hv⟩ := rel_o hx
            have hch := H.mem.ch c
            split at h
            · rename_i _ sz n _ hm
              rw [hm] at hch
              obtain ⟨h2, h3, A, cap, hv', hn, hc, hA, _⟩ := own_form hch hL
              cases hb : Nat.beq sz te.size with
              | false => rw [hb] at h; exact h.elim
              | true => rw [hb] at h; exact fin c 0 n L A cap hL (h2.trans (Nat.eq_of_beq_eq_true hb)) (hv.trans hv') hn hc (fun hp => by rw [hA hp, h3]; simp) h
            · exact h.elim
          · exact h B N ρ a w H
      · exact h B N ρ a w H

theorem s_extract (H : Holds B N ρ s a w) {k : Nat} {x : Operand} (h : vcVal P tab s ⟨dst, .extract x k, ty, pos, after, guard⟩ K) : Good P ρ a w ⟨dst, .extract x k, ty, pos, after, guard⟩ K := by
  simp only [vcVal] at h
  have hx := H.ev x
  split at h
  · rename_i l he
    rw [he] at hx
    obtain ⟨vs, hv, hr⟩ := rel_t hx
    split at h
    · rename_i y hn
      rw [nth_eq] at hn
      obtain ⟨v, hv2, hy⟩ := hr.get hn
      exact good_val (q := Instr.extract (a.eval x) k) rfl (by rw [hv]; simp [Instr.extract, hv2]) hy h
    · exact h.elim
  · exact h B N ρ a w H

theorem s_makeInterface (ht : Tab.ok P tab) (H : Holds B N ρ s a w) {T : Nat} {x : Operand} (h : vcVal P tab s ⟨dst, .makeInterface T x, ty, pos, after, guard⟩ K) : Good P ρ a w ⟨dst, .makeInterface T x, ty, pos, after, guard⟩ K := by
  simp only [vcVal] at h
  have hx := H.ev x
  split at h
  · rename_i y he
    rw [he] at hx
    have hv := rel_v hx
    split at h
    · rename_i ti hT
      obtain ⟨desc, hu, hd⟩ := tab_und ht hT
      have fin : (∀ ms, desc ≠ .interface ms) → K (.v (.iface T y)) → Good P ρ a w ⟨dst, .makeInterface T x, ty, pos, after, guard⟩ K := by
        intro hn hk
        refine good_val (q := Instr.makeInterface T (a.eval x)) rfl (v := .iface T y) ?_ (by simp only [Rel]) hk
        rw [hv]
        cases desc with
        | interface ms => exact absurd rfl (hn ms)
        | _ => simp [Instr.makeInterface, run_underlying hu]
      split at h
      · exact h.elim
      · rename_i hne
        refine fin (fun ms e => ?_) h
        subst e
        cases hi : ti.d with
        | ifc => exact hne hi
        | sl e => rw [hi] at hd; cases hd
        | st fs => rw [hi] at hd; obtain ⟨g, hg, _⟩ := hd; cases hg
        | arr n e => rw [hi] at hd; cases hd
        | str => rw [hi] at hd; cases hd
        | int k => rw [hi] at hd; cases hd
        | sc => rw [hi] at hd; exact hd
    · exact h.elim
  · exact h B N ρ a w H

theorem relL_map {s : St} (H : Holds B N ρ s a w) : ∀ (cs : List Operand), RelL ρ (cs.map (ev s)) (cs.map a.eval)
  | [] => by simp [RelL]
  | x :: r => by simp only [List.map_cons, RelL]; exact ⟨_, _, rfl, H.ev x, relL_map H r⟩

theorem s_makeFunc (H : Holds B N ρ s a w) {fn : Fn} {fs cs : Array Operand} (h : vcVal P tab s ⟨dst, .makeFunc fn fs cs, ty, pos, after, guard⟩ K) : Good P ρ a w ⟨dst, .makeFunc fn fs cs, ty, pos, after, guard⟩ K := by
  simp only [vcVal] at h
  split at h
  · rename_i g
    split at h
    · rename_i hf
      have hf' : fs = #[] := by cases fs; simpa using hf
      subst hf'
      refine good_val (q := Instr.makeFunc (.func g) ((#[] : Array Operand).map a.eval) (cs.map a.eval)) rfl (v := .func (.func g) #[] (cs.map a.eval)) (by simp [Instr.makeFunc]) ?_ h
      simp only [Rel]
      exact ⟨cs.toList.map a.eval, by cases cs; simp, relL_map H _⟩
    · exact h B N ρ a w H
  · exact h B N ρ a w H

theorem s_nilCheck (H : Holds B N ρ s a w) {x : Operand} (h : vcVal P tab s ⟨dst, .nilCheck x, ty, pos, after, guard⟩ K) : Good P ρ a w ⟨dst, .nilCheck x, ty, pos, after, guard⟩ K := by
  simp only [vcVal] at h
  have hx := H.ev x
  split at h
  · rename_i c i d he
    rw [he] at hx
    obtain ⟨L, hL, hv⟩ := rel_p hx
    exact ⟨_, _, by simp [execOp, hv], hx, by rw [hv] at *; exact h⟩
  · rename_i g l he
    rw [he] at hx
    obtain ⟨vs, hv, hr⟩ := rel_f hx
    exact ⟨_, _, by simp [execOp, hv], hx, by rw [hv] at *; exact h⟩
  · exact h B N ρ a w H
end
end Go.Proofs.Ytdabahipeepheaa.Vc

namespace Go.Proofs.Ytdabahipeepheaa.Vc
open Go Go.RowKit

section
variable {P : Program} {tab : Tab} {B : Bs} {N : Nat} {ρ : List Loc} {s : St} {a : Act} {w : World} {K : SV → Prop} {dst : Option Nat} {ty : TypeId} {pos : String} {after : Array Edge} {guard : Option (Nat × Bool)}

theorem setSeg_len : ∀ (q l : List SV) (o : Nat), (setSeg l o q).length = l.length
  | [], l, o => rfl
  | x :: r, l, o => by simp [setSeg, setSeg_len r]
def setV : List Value → Nat → List Value → List Value
  | l, _, [] => l
  | l, o, x :: r => setV (l.set o x) (o + 1) r
theorem setSeg_rel : ∀ {q : List SV} {qs : List Value}, RelL ρ q qs → ∀ {l : List SV} {vs : List Value} (o : Nat), RelL ρ l vs → RelL ρ (setSeg l o q) (setV vs o qs)
  | [], qs, h, l, vs, o, hl => by simp only [RelL] at h; subst h; simpa [setSeg, setV] using hl
  | x :: r, qs, h, l, vs, o, hl => by
    simp only [RelL] at h
    obtain ⟨v, vr, rfl, h1, h2⟩ := h
    simp only [setSeg, setV]
    exact setSeg_rel h2 (o + 1) (hl.set o h1)
theorem setV_mem : ∀ (q l : List Value) (o : Nat), (∀ x ∈ l, x.oneCell' = true) → (∀ x ∈ q, x.oneCell' = true) → ∀ x ∈ setV l o q, x.oneCell' = true
  | [], l, o, h, _ => h
  | y :: r, l, o, h, k => by
    simp only [setV]
    refine setV_mem r _ _ (fun x hx => ?_) (fun x hx => k x (by simp [hx]))
    rcases List.mem_or_eq_of_mem_set hx with h' | h'
    · exact h x h'
    · subst h'; exact k x (by simp)
theorem fold_setV : ∀ (q : List Value) (cells : Array Value) (off n : Nat), ((q.zipIdx n).foldl (fun cs (c, j) => cs.setIfInBounds (off + j) c) cells).toList = setV cells.toList (off + n) q
  | [], cells, off, n => by simp [setV]
  | x :: r, cells, off, n => by
    simp only [List.zipIdx_cons, List.foldl_cons, setV]
    rw [fold_setV r _ off (n + 1)]
    simp [Nat.add_assoc]
theorem fold_arr (q : Array Value) (cells : Array Value) (off : Nat) : (q.zipIdx.foldl (fun cs (c, j) => cs.setIfInBounds (off + j) c) cells) = (setV cells.toList off q.toList).toArray := by
  have h := fold_setV q.toList cells off 0
  rw [← Array.foldl_toList, Array.toList_zipIdx]
  rw [Nat.add_zero] at h
  rw [← h]

/-- The parts go where the model puts them. -/
theorem fillS_sound {s : St} (H : Holds B N ρ s a w) {place : Nat → Option (Nat × Nat × Bool)} {pl : Nat → Option (Nat × Nat)} (hp : ∀ i o n g, place i = some (o, n, g) → pl i = some (o, n) ∧ (g = false → n = 1)) :
    ∀ (parts : List (Nat × Operand)) (l : List SV) (K : List SV → Prop), fillS place s parts l K → ∀ (vs : List Value), RelL ρ l vs → (∀ x ∈ vs, x.oneCell' = true) →
      ∃ l' us, K l' ∧ RelL ρ l' us ∧ (∀ x ∈ us, x.oneCell' = true) ∧ Instr.fill pl vs.toArray (parts.map fun (i, x) => (i, a.eval x)) = some us.toArray
  | [], l, K, h, vs, hr, h1 => by
    simp only [fillS, frc_eq] at h
    exact ⟨l, vs, h, hr, h1, by simp [Instr.fill]⟩
  | (i, x) :: r, l, K, h, vs, hr, h1 => by
    simp only [fillS] at h
    have hlen := hr.length
    split at h
    · exact h.elim
    · rename_i o n g hpl
      obtain ⟨hpl', hg⟩ := hp i o n g hpl
      split at h
      · split at h
        · rename_i q he
          have hx := H.ev x
          rw [he] at hx
          obtain ⟨qs, hv, hq, hq1⟩ := rel_a hx
          cases hb : (Nat.beq q.length n && Nat.ble (o + n) l.length) with
          | false => rw [hb] at h; exact h.elim
          | true =>
            rw [hb] at h
            simp only [Bool.and_eq_true, Nat.beq_eq, Nat.ble_eq] at hb
            have hql := hq.length
            obtain ⟨l', us, k1, k2, k3, k4⟩ := fillS_sound H hp r _ K h (setV vs o qs) (setSeg_rel hq o hr) (setV_mem _ _ _ h1 hq1)
            refine ⟨l', us, k1, k2, k3, ?_⟩
            simp only [List.map_cons, Instr.fill, hpl', hv, Value.cells, List.size_toArray]
            rw [if_neg (by simp only [Bool.or_eq_true, decide_eq_true_eq]; omega), fold_arr]
            exact k4
        · exact h.elim
      · have hn := hg rfl
        subst hn
        cases hb : (Nat.beq 1 1 && Nat.ble (o + 1) l.length && (ev s x).one) with
        | false => rw [hb] at h; exact h.elim
        | true =>
          rw [hb] at h
          simp only [Bool.and_eq_true, Nat.beq_eq, Nat.ble_eq, true_and] at hb
          have h1x := (H.ev x).one hb.2
          obtain ⟨l', us, k1, k2, k3, k4⟩ := fillS_sound H hp r _ K h (vs.set o (a.eval x)) (hr.set o (H.ev x)) (fun y hy => by
            rcases List.mem_or_eq_of_mem_set hy with h' | h'
            · exact h1 y h'
            · subst h'; exact h1x)
          refine ⟨l', us, k1, k2, k3, ?_⟩
          have hcell : (a.eval x).cells = #[a.eval x] := by
            cases hxx : a.eval x <;> first | rfl | (rw [hxx] at h1x; cases h1x)
          simp only [List.map_cons, Instr.fill, hpl', hcell]
          rw [if_neg (by simp; omega), fold_arr]
          exact k4

theorem places_of (ht : Tab.ok P tab) : ∀ (gs : List Field), allT tab (gs.map fun f => (f.offset, f.type)) = true → ∃ pls : List (Nat × Nat), gs.mapM (fun f => (P.info? f.type).map fun i => (f.offset, i.size)) = some pls ∧
    ∀ (i o ty : Nat) (tj : TI), gs[i]?.map (fun f => (f.offset, f.type)) = some (o, ty) → tget tab ty = some tj → pls[i]? = some (o, tj.size)
  | [], _ => ⟨[], by simp, fun i o ty tj h => by simp at h⟩
  | f :: r, h => by
    simp only [List.map_cons, allT] at h
    split at h
    · rename_i tj hj
      obtain ⟨pls, h1, h2⟩ := places_of ht r h
      obtain ⟨j, z, k1, _, _, k4, _⟩ := (ht _ _ hj).info
      refine ⟨(f.offset, tj.size) :: pls, by simp [List.mapM_cons, k1, h1, k4], fun i o ty tj' hi hty => ?_⟩
      cases i with
      | zero =>
        simp at hi
        obtain ⟨rfl, rfl⟩ := hi
        rw [hj] at hty; cases hty
        simp
      | succ i => simpa using h2 i o ty tj' (by simpa using hi) hty
    · cases h

theorem s_build (ht : Tab.ok P tab) (H : Holds B N ρ s a w) {T : Nat} {parts : Array (Nat × Operand)} (h : vcVal P tab s ⟨dst, .build T parts, ty, pos, after, guard⟩ K) : Good P ρ a w ⟨dst, .build T parts, ty, pos, after, guard⟩ K := by
  simp only [vcVal] at h
  split at h
  · rename_i ti hT
    obtain ⟨desc, hu, hd⟩ := tab_und ht hT
    obtain ⟨z, hz, hzl⟩ := tab_zero ht hT w
    have hone := (ht T ti hT).one
    have hzv : RelL ρ (ti.zero.map .v) ti.zero := (RelL.plain _ _).2 rfl
    have hzc : z.cells = ti.zero.toArray := by rw [← hzl]
    have fin : ∀ (pl : Nat → Option (Nat × Nat)) (place : Nat → Option (Nat × Nat × Bool)), (∀ i o n g, place i = some (o, n, g) → pl i = some (o, n) ∧ (g = false → n = 1)) →
        fillS place s parts.toList (ti.zero.map .v) (fun l => K (.a l)) → (∀ cs, Instr.fill pl z.cells (parts.map fun (i, x) => (i, a.eval x)).toList = some cs → (Instr.build T (parts.map fun (i, x) => (i, a.eval x))).run P w = .ok (.agg cs) w) →
        Good P ρ a w ⟨dst, .build T parts, ty, pos, after, guard⟩ K := by
      intro pl place hp hf hrun
      obtain ⟨l', us, hk, hr, h1, hfill⟩ := fillS_sound H hp parts.toList _ _ hf ti.zero hzv hone
      refine good_val (q := Instr.build T (parts.map fun (i, x) => (i, a.eval x))) rfl (hrun us.toArray ?_) ?_ hk
      · rw [hzc]
        simpa using hfill
      · simp only [Rel]; exact ⟨us, rfl, hr, h1⟩
    split at h
    · rename_i fs hfs
      rw [hfs] at hd
      obtain ⟨g, rfl, hg⟩ := hd
      cases hall : allT tab fs with
      | false => rw [hall] at h; exact h.elim
      | true =>
        rw [hall] at h
        obtain ⟨pls, h1, h2⟩ := places_of ht g.toList (by rw [hg]; exact hall)
        have h3 := run_places (P := P) w _ _ h1
        refine fin (pls.toArray[·]?) _ ?_ h ?_
        · intro i o n gg hi
          split at hi
          · rename_i off ty' hn
            split at hi
            · rename_i tj hj
              simp at hi
              obtain ⟨rfl, rfl, rfl⟩ := hi
              rw [nthP_eq, ← hg, List.getElem?_map] at hn
              exact ⟨by simpa using h2 i off ty' tj hn hj, fun e => (ht _ _ hj).one1 e⟩
            · cases hi
          · cases hi
        · intro cs hcs
          have h5 : Instr.fill (fun x => pls[x]?) z.cells (parts.map fun (i, x) => (i, a.eval x)).toList = some cs := by simpa using hcs
          simp [Instr.build, hz, run_underlying hu, Array.mapM_eq_mapM_toList, h3]
          simp at h5
          rw [h5]
          rfl
    · rename_i n e hde
      rw [hde] at hd
      simp only [TD.ok] at hd
      subst hd
      split at h
      · rename_i te he
        have hsz := tab_size ht he w
        refine fin (fun i => some (i * te.size, te.size)) _ ?_ h ?_
        · intro i o n gg hi
          simp at hi
          obtain ⟨rfl, rfl, rfl⟩ := hi
          exact ⟨rfl, fun e => (ht _ _ he).one1 e⟩
        · intro cs hcs
          simp at hcs
          simp [Instr.build, hz, run_underlying hu, hsz, hcs]
      · exact h.elim
    · exact h.elim
  · exact h.elim

theorem s_convert (ht : Tab.ok P tab) (H : Holds B N ρ s a w) {S T : Nat} {x : Operand} (h : vcVal P tab s ⟨dst, .convert S T x, ty, pos, after, guard⟩ K) : Good P ρ a w ⟨dst, .convert S T x, ty, pos, after, guard⟩ K := by
  simp only [vcVal] at h
  have hx := H.ev x
  split at h
  · rename_i tj ti k0 n hS hT he
    rw [he] at hx
    have hv := rel_v hx
    split at h
    · rename_i k hk
      obtain ⟨desc, hu, hd⟩ := tab_und ht hT
      obtain ⟨desc', hu', hd'⟩ := tab_und ht hS
      rw [hk] at hd
      simp only [TD.ok] at hd
      subst hd
      obtain ⟨e, hq⟩ := rng_wrap h
      refine good_val (q := convert S T (a.eval x)) rfl (v := .int k n) ?_ (by simp only [Rel]) hq
      rw [hv]
      simp only [convert, Sem.run_bind, run_underlying hu', run_underlying hu, Result.andThen_ok]
      simp [Conv.intToInt, e]
    · exact h B N ρ a w H
  · exact h B N ρ a w H

theorem s_len (ht : Tab.ok P tab) (H : Holds B N ρ s a w) {args : Array Operand} {tys : Array TypeId} (h : vcVal P tab s ⟨dst, .call ⟨.builtin .len, args, tys⟩, ty, pos, after, guard⟩ K) : Good P ρ a w ⟨dst, .call ⟨.builtin .len, args, tys⟩, ty, pos, after, guard⟩ K := by
  simp only [vcVal] at h
  split at h
  · rename_i x T hargs htys
    have ea : args = #[x] := by cases args; simpa using hargs
    have et : tys = #[T] := by cases tys; simpa using htys
    subst ea et
    have hx := H.ev x
    split at h
    · exact h B N ρ a w H
    · rename_i ti hT
      obtain ⟨desc, hu, hd⟩ := tab_und ht hT
      have fin : ∀ (n : Nat), (Builtin.len_ #[T] ty #[a.eval x]).run P w = .ok (.int .i64 n) w → K (.v (.int .i64 n)) → Good P ρ a w ⟨dst, .call ⟨.builtin .len, #[x], #[T]⟩, ty, pos, after, guard⟩ K := by
        intro n hr hk
        refine ⟨.int .i64 n, _, ?_, by simp only [Rel], hk⟩
        simp [execOp, resolve, invoke, builtin, hr]
      split at h
      · rename_i e hd0
        rw [hd0] at hd
        simp only [TD.ok] at hd
        subst hd
        have fs : ∀ (A : Option Addr) (n k : Nat), a.eval x = .slice A n k → K (.v (.int .i64 n)) → Good P ρ a w ⟨dst, .call ⟨.builtin .len, #[x], #[T]⟩, ty, pos, after, guard⟩ K := fun A n k hv hk =>
          fin n (by rw [hv]; simp [Builtin.len_, run_underlying hu, goInt]) hk
        split at h
        · rename_i c i n he
          rw [he] at hx
          obtain ⟨L, A, cap, _, hv, _⟩ := rel_s hx
          exact fs A n cap hv h
        · rename_i c he
          rw [he] at hx
          obtain ⟨L, hL, hv⟩ := rel_o hx
          have hch := H.mem.ch c
          split at h
          · rename_i _ sz n _ hm
            rw [hm] at hch
            obtain ⟨_, _, A, cap, hv', _⟩ := own_form hch hL
            exact fs A n cap (hv.trans hv') h
          · exact h.elim
        · rename_i A n k he
          rw [he] at hx
          exact fs A n k (rel_v hx) h
        · exact h B N ρ a w H
      · rename_i hd0
        rw [hd0] at hd
        simp only [TD.ok] at hd
        subst hd
        split at h
        · rename_i b he
          rw [he] at hx
          exact fin b.size (by rw [rel_v hx]; simp [Builtin.len_, run_underlying hu, goInt]) h
        · exact h B N ρ a w H
      · exact h B N ρ a w H
  · exact h B N ρ a w H

theorem s_min (H : Holds B N ρ s a w) {args : Array Operand} {tys : Array TypeId} (h : vcVal P tab s ⟨dst, .call ⟨.builtin .min, args, tys⟩, ty, pos, after, guard⟩ K) : Good P ρ a w ⟨dst, .call ⟨.builtin .min, args, tys⟩, ty, pos, after, guard⟩ K := by
  simp only [vcVal] at h
  split at h
  · rename_i x y hargs
    have ea : args = #[x, y] := by cases args; simpa using hargs
    subst ea
    have hx := H.ev x
    have hy := H.ev y
    split at h
    · rename_i k p k2 q he he2
      rw [he] at hx
      rw [he2] at hy
      have e : (if q < p then q else p) = min p q := by omega
      refine ⟨.int k (min p q), _, ?_, by simp only [Rel], h⟩
      simp [execOp, resolve, invoke, builtin, Builtin.min_, rel_v hx, rel_v hy, Builtin.min2, e]
    · exact h B N ρ a w H
  · exact h B N ρ a w H
theorem s_max (H : Holds B N ρ s a w) {args : Array Operand} {tys : Array TypeId} (h : vcVal P tab s ⟨dst, .call ⟨.builtin .max, args, tys⟩, ty, pos, after, guard⟩ K) : Good P ρ a w ⟨dst, .call ⟨.builtin .max, args, tys⟩, ty, pos, after, guard⟩ K := by
  simp only [vcVal] at h
  split at h
  · rename_i x y hargs
    have ea : args = #[x, y] := by cases args; simpa using hargs
    subst ea
    have hx := H.ev x
    have hy := H.ev y
    split at h
    · rename_i k p k2 q he he2
      rw [he] at hx
      rw [he2] at hy
      have e : (if p < q then q else p) = max p q := by omega
      refine ⟨.int k (max p q), _, ?_, by simp only [Rel], h⟩
      simp [execOp, resolve, invoke, builtin, Builtin.max_, rel_v hx, rel_v hy, Builtin.max2, e]
    · exact h B N ρ a w H
  · exact h B N ρ a w H

theorem s_unOp (H : Holds B N ρ s a w) {op : UnOp} {T : Nat} {x : Operand} (h : vcVal P tab s ⟨dst, .unOp op T x, ty, pos, after, guard⟩ K) : Good P ρ a w ⟨dst, .unOp op T x, ty, pos, after, guard⟩ K := by
  simp only [vcVal] at h
  have hx := H.ev x
  split at h
  · rename_i b he
    rw [he] at hx
    exact good_val (q := Op.unary .not (a.eval x)) rfl (v := .bool (!b)) (by rw [rel_v hx]; simp [Op.unary]) (by simp only [Rel]) h
  · rename_i k n he
    rw [he] at hx
    obtain ⟨e, hq⟩ := rng_wrap h
    exact good_val (q := Op.unary .neg (a.eval x)) rfl (v := .int k (0 - n)) (by rw [rel_v hx]; simp only [Op.unary, Op.intArith, e]; simp) (by simp only [Rel]) hq
  · exact h B N ρ a w H

theorem s_binOp (ht : Tab.ok P tab) (H : Holds B N ρ s a w) {op : BinOp} {T T2 : Nat} {x y : Operand} (h : vcVal P tab s ⟨dst, .binOp op T x y T2, ty, pos, after, guard⟩ K) : Good P ρ a w ⟨dst, .binOp op T x y T2, ty, pos, after, guard⟩ K := by
  simp only [vcVal] at h
  have hx := H.ev x
  have hy := H.ev y
  split at h
  · rename_i k p k2 q he he2
    rw [he] at hx
    rw [he2] at hy
    cases hb : kB k k2 with
    | false => rw [hb] at h; exact h.elim
    | true =>
      rw [hb] at h
      have := kB_eq hb
      subst this
      obtain ⟨v, hr0, hk⟩ := vcInt_sound (P := P) T x y h
      have hr := hr0 w
      exact good_val (q := do eqGuard op T x y (a.eval x) (a.eval y); binOp op T (a.eval x) (a.eval y)) rfl (v := v) (by rw [rel_v hx, rel_v hy]; exact hr) (by simp only [Rel]) hk
  · rename_i p q he he2
    rw [he] at hx
    rw [he2] at hy
    split at h
    · obtain ⟨hle, hk⟩ := h
      refine good_val (q := do eqGuard .add T x y (a.eval x) (a.eval y); binOp .add T (a.eval x) (a.eval y)) rfl (v := .string (p ++ q)) ?_ (by simp only [Rel]) hk
      rw [rel_v hx, rel_v hy]
      have : ¬ (((p.size + q.size : Nat) : Int) > 9223372036854775807) := by omega
      simp only [eqGuard_at_string, binOp, Op.stringOp, IntKind.max_i64, if_neg this]
      simp
    · refine good_val (q := do eqGuard .eql T x y (a.eval x) (a.eval y); binOp .eql T (a.eval x) (a.eval y)) rfl (v := .bool (p.toList == q.toList)) ?_ (by simp only [Rel]) h
      rw [rel_v hx, rel_v hy]
      simp [eqGuard_at_string, binOp, Op.stringOp]
    · refine good_val (q := do eqGuard .neq T x y (a.eval x) (a.eval y); binOp .neq T (a.eval x) (a.eval y)) rfl (v := .bool (!(p.toList == q.toList))) ?_ (by simp only [Rel]) h
      rw [rel_v hx, rel_v hy]
      simp [eqGuard_at_string, binOp, Op.stringOp]
    · exact h B N ρ a w H
  · rename_i tt p he he2
    rw [he] at hx
    rw [he2] at hy
    split at h
    · rename_i i hT
      obtain ⟨desc, hu, hd⟩ := tab_und ht hT
      split at h
      · rename_i hd0
        rw [hd0] at hd
        obtain ⟨ms, rfl⟩ := hd
        have hm : P.underlying T = some (.interface (P.methodsAt T)) := by rw [hu]; simp [Program.methodsAt, hu]
        split at h
        · refine good_val (q := do eqGuard .eql T x y (a.eval x) (a.eval y); binOp .eql T (a.eval x) (a.eval y)) rfl (v := .bool false) ?_ (by simp only [Rel]) h
          rw [rel_v hx, rel_v hy]
          simp [eqGuard_at_iface, run_eql_held_nil w T _ _ hm]
        · refine good_val (q := do eqGuard .neq T x y (a.eval x) (a.eval y); binOp .neq T (a.eval x) (a.eval y)) rfl (v := .bool true) ?_ (by simp only [Rel]) h
          rw [rel_v hx, rel_v hy]
          simp [eqGuard_at_iface, run_neq_held_nil w T _ _ hm]
        · exact h.elim
      · exact h.elim
    · exact h.elim
  · rename_i he he2
    rw [he] at hx
    rw [he2] at hy
    split at h
    · rename_i c
      split at h
      · rename_i i hT
        obtain ⟨desc, hu, hd⟩ := tab_und ht hT
        split at h
        · rename_i hd0
          rw [hd0] at hd
          obtain ⟨ms, rfl⟩ := hd
          have hm : P.underlying T = some (.interface (P.methodsAt T)) := by rw [hu]; simp [Program.methodsAt, hu]
          split at h
          · refine good_val (q := do eqGuard .eql T x (.const c) (a.eval x) (a.eval (.const c)); binOp .eql T (a.eval x) (a.eval (.const c))) rfl (v := .bool true) ?_ (by simp only [Rel]) h
            rw [rel_v hx, rel_v hy]
            simp [eqGuard_nil_constR, run_eql_nil_nil w T hm]
          · refine good_val (q := do eqGuard .neq T x (.const c) (a.eval x) (a.eval (.const c)); binOp .neq T (a.eval x) (a.eval (.const c))) rfl (v := .bool false) ?_ (by simp only [Rel]) h
            rw [rel_v hx, rel_v hy]
            simp [eqGuard_nil_constR, run_neq_nil_nil w T hm]
          · exact h.elim
        · exact h.elim
      · exact h.elim
    · exact h.elim
  · exact h B N ρ a w H

/-- EVERY OPERATION THAT CHANGES NO MEMORY. -/
theorem vcVal_sound (ht : Tab.ok P tab) (H : Holds B N ρ s a w) {o : Oper} (h : vcVal P tab s o K) : Good P ρ a w o K := by
  obtain ⟨dst, op, ty, pos, after, guard⟩ := o
  cases op with
  | move x => exact ⟨_, _, by simp [execOp], H.ev x, h⟩
  | assign x => exact ⟨_, _, by simp [execOp], H.ev x, h⟩
  | pick c x y =>
    simp only [vcVal] at h
    have hc := H.ev c
    split at h
    · rename_i b he
      rw [he] at hc
      cases b with
      | true => exact ⟨_, _, by simp [execOp, rel_v hc, asBool], H.ev x, h⟩
      | false => exact ⟨_, _, by simp [execOp, rel_v hc, asBool], H.ev y, h⟩
    · exact h.elim
  | binOp op T x y T2 => exact s_binOp ht H h
  | unOp op T x => exact s_unOp H h
  | fieldAddr T x k => exact s_fieldAddr ht H h
  | indexAddr T x y => exact s_indexAddr ht H h
  | load T x => exact s_load ht H h
  | field T x k => exact s_field ht H h
  | index T x y => exact s_index ht H h
  | slice T x lo hi mx => exact s_slice ht H h
  | extract x k => exact s_extract H h
  | makeInterface T x => exact s_makeInterface ht H h
  | makeFunc fn fs cs => exact s_makeFunc H h
  | nilCheck x => exact s_nilCheck H h
  | build T parts => exact s_build ht H h
  | convert S T x => exact s_convert ht H h
  | call c =>
    obtain ⟨callee, args, tys⟩ := c
    cases callee with
    | value f => exact h B N ρ a w H
    | invoke r m => exact h B N ρ a w H
    | builtin b =>
      cases b with
      | len => exact s_len ht H h
      | min => exact s_min H h
      | max => exact s_max H h
      | _ => exact h B N ρ a w H
  | _ => exact h B N ρ a w H
end
end Go.Proofs.Ytdabahipeepheaa.Vc

namespace Go.Proofs.Ytdabahipeepheaa.Vc
open Go Go.RowKit

/-- What stays the same in a walk. -/
structure Cx where
  P : Program
  tab : Tab
  B : Bs
  N : Nat
  n0 : Nat

/-- A function that has a body of its own. -/
def Fun (P : Program) (g : Nat) : Prop := ∃ fn, P.funcs[g]? = some fn ∧ (fn.name == "runtime.NumGoroutine") = false ∧ fn.body.isNone = false

/-- A call, told of symbolic values. -/
structure CallP (Γ : Cx) (g : Nat) (svs : List SV) (s : St) (K : SV → St → Prop) : Prop where
  fn : Fun Γ.P g
  run : ∀ (ρ : List Loc) (a : Act) (w : World) (vs : List Value), Holds Γ.B Γ.N ρ s a w → RelL ρ svs vs →
    Calls Γ.P g vs.toArray w (fun e w' => ∃ v x s' ρ', e = .returned v ∧ Ext ρ ρ' ∧ Rel ρ' x v ∧ K x s' ∧ Holds Γ.B Γ.N ρ' s' a w')

/-- What is left to its user: an operation of which nothing is known here, that may change memory. -/
def ExtO (Γ : Cx) (s : St) (o : Oper) (K : St → Prop) : Prop :=
  ∀ (ρ : List Loc) (a : Act) (w : World) (Q : Exit → Act → World → Prop), Holds Γ.B Γ.N ρ s a w → o.wp Γ.P a w (fun a' w' => ∃ s' ρ', K s' ∧ Holds Γ.B Γ.N ρ' s' a' w') Q

def nthL : List (List SV) → Nat → List SV
  | [], _ => []
  | x :: _, 0 => x
  | _ :: r, n + 1 => nthL r n
def putN (N : Nat) (s : St) (d : Option Nat) (ch : Ch) (x : Nat → SV) (K : St → Prop) : Prop :=
  match s with
  | ⟨fr, mem, nx⟩ => fch ch fun ch => fnat (nx + 1) fun nx1 => put N ⟨fr, (nx, ch) :: mem, nx1⟩ d (x nx) K
/-- The cells of the parts of a slice that is written out. -/
def litS (s : St) (sz : Nat) : Nat → List (Nat × Operand) → List (List SV) → (List (List SV) → Prop) → Prop
  | _, [], l, K => K l.reverse
  | k, (i, x) :: r, l, K => bif Nat.beq i k then (match ev s x with
    | .a q => bif Nat.beq q.length sz then litS s sz (k + 1) r (q :: l) K else False
    | y => bif Nat.beq sz 1 && y.one then litS s sz (k + 1) r ([y] :: l) K else False) else False

def srcOf (m : Mem) (sz : Nat) (x : SV) (K : Nat → Nat → (Nat → List SV) → Prop) : Prop :=   -- where from, how many, what
  match x with
  | .s c i n => match mget m c with
    | .ro z q f => bif Nat.beq z sz then i + n ≤ q ∧ K i n f else False
    | .own _ z q f => bif Nat.beq z sz then i + n ≤ q ∧ K i n f else False
    | _ => False
  | .o c => match mget m c with
    | .own _ z n f => bif Nat.beq z sz then K 0 n f else False
    | _ => False
  | .v (.slice none 0 0) => K 0 0 fun _ => []
  | _ => False

/-- The head of an own row, as an own row (what it is cut from is forgotten). -/
def vcCut (Γ : Cx) (s : St) (T c : Nat) (x : SV) (d : Option Nat) (K : St → Prop) : Prop :=
  match x with
  | .v (.int _ k) => match tget Γ.tab T with
    | some ti => match ti.d with
      | .sl e' => match tget Γ.tab e' with
        | some te => match mget s.mem c with
          | .own e sz n f => bif Nat.beq sz te.size then (0 ≤ k ∧ k ≤ (n : Int)) ∧ putN Γ.N (match s with | ⟨fr, mem, nx⟩ => ⟨fr, (c, .non) :: mem, nx⟩) d (.own e sz k.toNat f) .o K else False
          | _ => False
        | none => False
      | _ => False
    | none => False
  | _ => False

def vcOp (Γ : Cx) (s : St) (o : Oper) (K : St → Prop) : Prop :=
  match o.op with
  | .alloc T => match tget Γ.tab T with
    | some ti => putN Γ.N s o.dst (.box T (ti.zero.map .v)) (fun c => .p c 0 0) K
    | none => False
  | .box T x => match ev s x with
    | .a q => putN Γ.N s o.dst (.box T q) (fun c => .p c 0 0) K
    | y => bif y.one then putN Γ.N s o.dst (.box T [y]) (fun c => .p c 0 0) K else False
  | .store T x y => match o.dst, ev s x with
    | none, .p c i d => match tget Γ.tab T with
      | none => False
      | some ti =>
        let wr (q : List SV) : Prop := match mget s.mem c with
          | .box t l => bif Nat.beq i 0 && Nat.ble (d + q.length) l.length then frc (setSeg l d q) fun l' => (match s with | ⟨fr, mem, nx⟩ => K ⟨fr, (c, .box t l') :: mem, nx⟩) else False
          | .own e sz n f => i < n ∧ (bif Nat.ble (d + q.length) sz then ∃ f' : Nat → List SV, f' i = setSeg (f i) d q ∧ (∀ j, j < n → j ≠ i → f' j = f j) ∧ (match s with | ⟨fr, mem, nx⟩ => K ⟨fr, (c, .own e sz n f') :: mem, nx⟩) else False)
          | _ => False
        match ev s y with
        | .a q => bif Nat.beq q.length ti.size then wr q else False
        | z => bif Nat.beq ti.size 1 && z.one then wr [z] else False
    | _, _ => ExtO Γ s o K
  | .buildSlice T n parts => match tget Γ.tab T with
    | some ti => match ti.d with
      | .sl e => match tget Γ.tab e with
        | some te => bif Nat.beq parts.toList.length n && Nat.ble (n * te.size) 65536 && Nat.blt 0 te.size then litS s te.size 0 parts.toList [] fun l => putN Γ.N s o.dst (.own e te.size n (nthL l)) .o K else False
        | none => False
      | _ => False
    | none => False
  | .makeSlice T l c => match ev s l, ev s c with
    | .v (.int .i64 n), .v (.int .i64 m) => match tget Γ.tab T with
      | some ti => match ti.d with
        | .sl e => match tget Γ.tab e with
          | some te => (n = m ∧ 0 ≤ n ∧ te.bytes * n.toNat ≤ 140737488355328 ∧ n ≤ 9223372036854775807) ∧ putN Γ.N s o.dst (.own e te.size n.toNat (fun _ => te.zero.map .v)) .o K
          | none => False
        | _ => False
      | none => False
    | _, _ => ExtO Γ s o K
  | .call c => match c.callee with
    | .value f => match ev s f with
      | .f g caps => CallP Γ g (c.args.toList.map (ev s) ++ caps) s fun x s' => put Γ.N s' o.dst x K
      | _ => ExtO Γ s o K
    | .builtin .append => match c.args.toList, c.argTypes.toList with
      | [x, y], [T, T'] => bif Nat.beq T T' then match tget Γ.tab T with
        | some ti => match ti.d with
          | .sl e => match tget Γ.tab e with
            | some te =>
              let app (n : Nat) (f : Nat → List SV) (s' : St) : Prop := srcOf s.mem te.size (ev s y) fun i m g =>
                ((n + m) * te.bytes ≤ 140737488355328 ∧ n + m ≤ 9223372036854775807) ∧ ∃ f' : Nat → List SV, (∀ j, j < n → f' j = f j) ∧ (∀ j, j < m → f' (n + j) = g (i + j)) ∧ putN Γ.N s' o.dst (.own e te.size (n + m) f') .o K
              bif Nat.blt 0 te.size then (match ev s x with
              | .o c => match mget s.mem c with
                | .own e' sz n f => bif Nat.beq e' e && Nat.beq sz te.size then app n f (match s with | ⟨fr, mem, nx⟩ => ⟨fr, (c, .non) :: mem, nx⟩) else False
                | _ => False
              | .v (.slice none 0 0) => app 0 (fun _ => []) s
              | _ => ExtO Γ s o K) else False
            | none => False
          | _ => ExtO Γ s o K
        | none => False else ExtO Γ s o K
      | _, _ => ExtO Γ s o K
    | .builtin .len => vcVal Γ.P Γ.tab s o fun x => put Γ.N s o.dst x K
    | .builtin .min => vcVal Γ.P Γ.tab s o fun x => put Γ.N s o.dst x K
    | .builtin .max => vcVal Γ.P Γ.tab s o fun x => put Γ.N s o.dst x K
    | _ => ExtO Γ s o K
  | .slice T x lo hi mx => match lo, mx, hi, ev s x with
    | none, none, some h, .o c => (vcVal Γ.P Γ.tab s o fun x => put Γ.N s o.dst x K) ∨ vcCut Γ s T c (ev s h) o.dst K
    | _, _, _, _ => vcVal Γ.P Γ.tab s o fun x => put Γ.N s o.dst x K
  | .mapUpdate .. => ExtO Γ s o K
  | .lookup .. => ExtO Γ s o K
  | .makeMap .. => ExtO Γ s o K
  | .range .. => ExtO Γ s o K
  | .next .. => ExtO Γ s o K
  | .insert .. => ExtO Γ s o K
  | .convert S T x => match tget Γ.tab S, tget Γ.tab T, ev s x with
    | some _, some ti, .v (.int _ n) => match ti.d with
      | .int k => rng k n (put Γ.N s o.dst (.v (.int k n)) K)
      | _ => ExtO Γ s o K
    | _, _, _ => ExtO Γ s o K
  | _ => vcVal Γ.P Γ.tab s o fun x => put Γ.N s o.dst x K

section
variable {Γ : Cx} {ρ : List Loc} {s : St} {a : Act} {w : World} {K : St → Prop}
abbrev After (Γ : Cx) (K : St → Prop) : Act → World → Prop := fun a' w' => ∃ s' ρ', K s' ∧ Holds Γ.B Γ.N ρ' s' a' w'

theorem last_get (ρ : List Loc) (L : Loc) : (ρ ++ [L])[ρ.length]? = some L := by simp
theorem new_sound (H : Holds Γ.B Γ.N ρ s a w) {d : Option Nat} {ch : Ch} {x : Nat → SV} (hp : putN Γ.N s d ch x K) {w' : World} (hb : Below w.heap.size w w') (L : Loc) (hc : ChSat Γ.B (ρ ++ [L]) w' ρ.length ch)
    (ho : ∀ b, Occ (ρ ++ [L]) ρ.length ch b → w.heap.size ≤ b) {v : Value} (hx : Rel (ρ ++ [L]) (x ρ.length) v) : After Γ K (a.put d v) w' := by
  obtain ⟨fr, mem, nx⟩ := s
  have e := Ext.app ρ [L]
  have hm := H.mem.below hb
  have hm' : MSat Γ.B (ρ ++ [L]) ((ρ.length, ch) :: mem) w' := hm.add L ch hc (fun c b _ o o' => by
    have h1 := H.mem.occ_lt o
    have h2 := ho b o'
    omega) (fun b o => .inl (Nat.le_trans H.mem.frm.size (ho b o)))
  have hnx : ρ.length = nx := H.nx
  have H' : Holds Γ.B Γ.N (ρ ++ [L]) ⟨fr, (nx, ch) :: mem, nx + 1⟩ a w' := ⟨by simp [hnx], fun t => (H.fr t).mono e, H.size, H.dfr, by rw [← hnx]; exact hm'⟩
  rw [hnx] at hx
  simp only [putN, fch_eq, fnat_eq] at hp
  obtain ⟨s', hk, h', _, _⟩ := put_sound H' hx hp
  exact ⟨s', _, hk, h'⟩

theorem wp_value {o : Oper} {v : Value} {w' : World} {Q : Exit → Act → World → Prop} {next : Act → World → Prop} (hr : (execOp a.eval o).run Γ.P w = .ok (.value v) w') (h : next (a.put o.dst v) w') : o.wp Γ.P a w next Q := by
  unfold Oper.wp; rw [hr]; exact h

theorem e_alloc (ht : Tab.ok Γ.P Γ.tab) (H : Holds Γ.B Γ.N ρ s a w) {dst : Option Nat} {T : Nat} {ty : TypeId} {pos : String} {after : Array Edge} {guard : Option (Nat × Bool)} {Q : Exit → Act → World → Prop}
    (h : vcOp Γ s ⟨dst, .alloc T, ty, pos, after, guard⟩ K) : Oper.wp Γ.P ⟨dst, .alloc T, ty, pos, after, guard⟩ a w (After Γ K) Q := by
  simp only [vcOp] at h
  split at h
  · rename_i ti hT
    obtain ⟨z, hz, hzl⟩ := tab_zero ht hT w
    have hone := (ht T ti hT).one
    have hzc : z.cells = ti.zero.toArray := by rw [← hzl]
    refine wp_value (v := .pointer (some ⟨w.heap.size, 0, none⟩)) (w' := w.alloc (.cells ti.zero.toArray T)) ?_ ?_
    · simp [execOp, Instr.alloc, hz, newVar, newRow, hzc]
    · refine new_sound H h ((Below.refl _ _).alloc (Nat.le_refl _) _) ⟨w.heap.size, 0, ti.zero.length, .nilFunc⟩ ?_ ?_ ?_
      · refine ⟨_, ti.zero, last_get _ _, rfl, by simp, heap_alloc_new w _, (RelL.plain _ _).2 rfl, hone, .inl H.mem.frm.size⟩
      · rintro b ⟨L, hL, rfl⟩
        rw [last_get] at hL; cases hL; exact Nat.le_refl _
      · simp only [Rel]; exact ⟨_, last_get _ _, by simp⟩
  · exact h.elim

theorem e_box (H : Holds Γ.B Γ.N ρ s a w) {dst : Option Nat} {T : Nat} {x : Operand} {ty : TypeId} {pos : String} {after : Array Edge} {guard : Option (Nat × Bool)} {Q : Exit → Act → World → Prop}
    (h : vcOp Γ s ⟨dst, .box T x, ty, pos, after, guard⟩ K) : Oper.wp Γ.P ⟨dst, .box T x, ty, pos, after, guard⟩ a w (After Γ K) Q := by
  simp only [vcOp] at h
  have hx := H.ev x
  have fin : ∀ (q : List SV) (vs : List Value), (a.eval x).cells = vs.toArray → RelL ρ q vs → (∀ y ∈ vs, y.oneCell' = true) → putN Γ.N s dst (.box T q) (fun c => .p c 0 0) K → Oper.wp Γ.P ⟨dst, .box T x, ty, pos, after, guard⟩ a w (After Γ K) Q := by
    intro q vs hc hr h1 h
    refine wp_value (v := .pointer (some ⟨w.heap.size, 0, none⟩)) (w' := w.alloc (.cells vs.toArray T)) ?_ ?_
    · simp [execOp, Instr.box, newVar, newRow, hc]
    · refine new_sound H h ((Below.refl _ _).alloc (Nat.le_refl _) _) ⟨w.heap.size, 0, q.length, .nilFunc⟩ ?_ ?_ ?_
      · refine ⟨_, vs, last_get _ _, rfl, rfl, heap_alloc_new w _, RelL.mono (Ext.app _ _) _ _ hr, h1, .inl H.mem.frm.size⟩
      · rintro b ⟨L, hL, rfl⟩
        rw [last_get] at hL; cases hL; exact Nat.le_refl _
      · simp only [Rel]; exact ⟨_, last_get _ _, by simp⟩
  split at h
  · rename_i q he
    rw [he] at hx
    obtain ⟨vs, hv, hr, h1⟩ := rel_a hx
    exact fin q vs (by rw [hv]; rfl) hr h1 h
  · cases hb : (ev s x).one with
    | false => rw [hb] at h; exact h.elim
    | true =>
      rw [hb] at h
      have h1 := hx.one hb
      refine fin [ev s x] [a.eval x] ?_ ?_ ?_ h
      · cases hxx : a.eval x <;> first | rfl | (rw [hxx] at h1; cases h1)
      · simp only [RelL]; exact ⟨_, _, rfl, hx, rfl⟩
      · intro y hy; simp at hy; subst hy; exact h1
end
end Go.Proofs.Ytdabahipeepheaa.Vc

namespace Go.Proofs.Ytdabahipeepheaa.Vc
open Go Go.RowKit

section
variable {Γ : Cx} {ρ : List Loc} {s : St} {a : Act} {w : World} {K : St → Prop} {dst : Option Nat} {ty : TypeId} {pos : String} {after : Array Edge} {guard : Option (Nat × Bool)} {Q : Exit → Act → World → Prop}

theorem setV_len : ∀ (q l : List Value) (o : Nat), (setV l o q).length = l.length
  | [], l, o => rfl
  | x :: r, l, o => by simp [setV, setV_len r]

/-- A row of cells is stored, cell by cell, into a block that is known whole. -/
theorem run_storeRow {P : Program} (g T : Nat) : ∀ (q : List Value) (i o : Nat) (cells : List Value) (w : World), w.heap[g]? = some (.cells cells.toArray T (0, 0)) → o + i + q.length ≤ cells.length → (∀ x ∈ q, x.oneCell' = true) →
    ∃ w', (storeCells ⟨g, o, none⟩ q i).run P w = .ok () w' ∧ w'.heap[g]? = some (.cells (setV cells (o + i) q).toArray T (0, 0)) ∧ (∀ k, k ≠ g → w'.heap[k]? = w.heap[k]?) ∧ w'.heap.size = w.heap.size ∧ w'.os = w.os ∧ w'.tape = w.tape ∧ w'.output = w.output
  | [], i, o, cells, w, hg, _, _ => ⟨w, by simp [storeCells], by simpa [setV] using hg, fun _ _ => rfl, rfl, rfl, rfl, rfl⟩
  | x :: r, i, o, cells, w, hg, hle, h1 => by
    have ha : (⟨g, o, none⟩ : Addr).add i = ⟨g, o + i, none⟩ := Addr.add_lit g o i
    have hlt : o + i < cells.length := by simp at hle; omega
    have hcell : w.cell? ⟨g, o + i, none⟩ = some cells[o + i] := by simp [World.cell?, hg, hlt]
    have hfr : w.frozen? ⟨g, o + i, none⟩ = false := by simp [World.frozen?, hg]
    have hset : (w.setCell ⟨g, o + i, none⟩ x).heap[g]? = some (.cells (cells.set (o + i) x).toArray T (0, 0)) := by
      simp [World.setCell, Array.getElem?_modify, hg]
    obtain ⟨w', hr, h2, h3, h4, h5, h6, h7⟩ := run_storeRow (P := P) g T r (i + 1) o (cells.set (o + i) x) (w.setCell ⟨g, o + i, none⟩ x) hset (by simp at hle ⊢; omega) (fun y hy => h1 y (by simp [hy]))
    refine ⟨w', ?_, ?_, fun k hk => ?_, ?_, h5, h6, h7⟩
    · simp only [storeCells, ha, Sem.run_bind]
      rw [run_store P w _ x .plain (h1 x (by simp))]
      simp [hcell, hfr, hr]
    · simpa [setV, Nat.add_assoc] using h2
    · rw [h3 k hk, Below.heap_setCell _ _ _ _ (by simpa using hk)]
    · rw [h4]; simp [World.setCell]

theorem run_storeVar_row' {P : Program} {tab : Tab} (ht : Tab.ok P tab) {T : Nat} {ti : TI} (hT : tget tab T = some ti) {v : Value} {vs : List Value} (hv : v.cells = vs.toArray) (hl : vs.length = ti.size) {g o te : Nat} {cells : List Value} {w : World}
    (hg : w.heap[g]? = some (.cells cells.toArray te (0, 0))) (hle : o + vs.length ≤ cells.length) (h1 : ∀ x ∈ vs, x.oneCell' = true) :
    ∃ w', (storeVar T ⟨g, o, none⟩ v).run P w = .ok () w' ∧ w'.heap[g]? = some (.cells (setV cells o vs).toArray te (0, 0)) ∧ (∀ k, k ≠ g → w'.heap[k]? = w.heap[k]?) ∧ w'.heap.size = w.heap.size ∧ w'.os = w.os ∧ w'.tape = w.tape ∧ w'.output = w.output := by
  obtain ⟨w', hr, h⟩ := run_storeRow (P := P) g te vs 0 o cells w hg (by simpa using hle) h1
  refine ⟨w', ?_, by simpa using h⟩
  have hsz := tab_size ht hT w
  simp [storeVar, hsz, hv, hl, hr]

theorem setV_take (q : List Value) : ∀ (l : List Value) (o k : Nat), o + q.length ≤ k → (setV l o q).take k = setV (l.take k) o q := by
  induction q with
  | nil => intro l o k _; rfl
  | cons x r ih =>
    intro l o k h
    simp only [setV]
    rw [ih _ _ _ (by simp at h ⊢; omega)]
    rw [List.take_set]
theorem setV_get (q : List Value) : ∀ (l : List Value) (o j : Nat), (j < o ∨ o + q.length ≤ j) → (setV l o q)[j]? = l[j]? := by
  induction q with
  | nil => intro l o j _; rfl
  | cons x r ih =>
    intro l o j h
    simp only [setV]
    rw [ih _ _ _ (by simp at h ⊢; omega), List.getElem?_set_ne (by simp at h; omega)]
/-- A part of a row that is not written stays. -/
theorem setV_part_other (q l : List Value) (p n o : Nat) (h : o + q.length ≤ p ∨ p + n ≤ o) : ((setV l o q).drop p).take n = (l.drop p).take n := by
  apply List.ext_getElem?
  intro j
  simp only [List.getElem?_take, List.getElem?_drop]
  split
  · exact setV_get q l o (p + j) (by omega)
  · rfl
theorem setV_drop (q : List Value) : ∀ (l : List Value) (p d : Nat), (setV l (p + d) q).drop p = setV (l.drop p) d q := by
  induction q with
  | nil => intro l p d; rfl
  | cons x r ih =>
    intro l p d
    simp only [setV]
    rw [show p + d + 1 = p + (d + 1) by omega, ih, List.drop_set, if_neg (by omega)]
    congr 2
    omega
/-- The part that is written. -/
theorem setV_part_same (q l : List Value) (p n d : Nat) (h : d + q.length ≤ n) : ((setV l (p + d) q).drop p).take n = setV ((l.drop p).take n) d q := by
  rw [setV_drop, setV_take _ _ _ _ h]

theorem e_store (ht : Tab.ok Γ.P Γ.tab) (H : Holds Γ.B Γ.N ρ s a w) {T : Nat} {x y : Operand} (h : vcOp Γ s ⟨dst, .store T x y, ty, pos, after, guard⟩ K) : Oper.wp Γ.P ⟨dst, .store T x y, ty, pos, after, guard⟩ a w (After Γ K) Q := by
  simp only [vcOp] at h
  have hx := H.ev x
  have hy := H.ev y
  split at h
  · rename_i c i d he
    rw [he] at hx
    obtain ⟨L, hL, hv⟩ := rel_p hx
    split at h
    · exact h.elim
    · rename_i ti hT
      have fin : ∀ (q : List SV) (vs : List Value), (a.eval y).cells = vs.toArray → RelL ρ q vs → (∀ z ∈ vs, z.oneCell' = true) → q.length = ti.size →
          (match mget s.mem c with
            | .box t l => bif Nat.beq i 0 && Nat.ble (d + q.length) l.length then frc (setSeg l d q) fun l' => (match s with | ⟨fr, mem, nx⟩ => K ⟨fr, (c, .box t l') :: mem, nx⟩) else False
            | .own e sz n f => i < n ∧ (bif Nat.ble (d + q.length) sz then ∃ f' : Nat → List SV, f' i = setSeg (f i) d q ∧ (∀ j, j < n → j ≠ i → f' j = f j) ∧ (match s with | ⟨fr, mem, nx⟩ => K ⟨fr, (c, .own e sz n f') :: mem, nx⟩) else False)
            | _ => False) → Oper.wp Γ.P ⟨none, .store T x y, ty, pos, after, guard⟩ a w (After Γ K) Q := by
        intro q vs hc hr h1 hql h
        have hch := H.mem.ch c
        obtain ⟨fr, mem, nx⟩ := s
        have hlen := hr.length
        -- the store, into block g, whose cells are 'cells'
        have step : ∀ (g o te : Nat) (cells : List Value) (ch' : Ch), w.heap[g]? = some (.cells cells.toArray te (0, 0)) → L.blk = g → L.off + i * L.sz + d = o → o + vs.length ≤ cells.length → (mget mem c).wr = true → (∀ b, Occ ρ c ch' b → Occ ρ c (mget mem c) b) → Occ ρ c (mget mem c) g →
            (Γ.B.w0.heap.size ≤ g ∨ Γ.B.X g) → (∀ w' : World, w'.heap[g]? = some (.cells (setV cells o vs).toArray te (0, 0)) → (∀ k, k ≠ g → w'.heap[k]? = w.heap[k]?) → w'.heap.size = w.heap.size → ChSat Γ.B ρ w' c ch') → K ⟨fr, (c, ch') :: mem, nx⟩ →
            Oper.wp Γ.P ⟨none, .store T x y, ty, pos, after, guard⟩ a w (After Γ K) Q := by
          intro g o te cells ch' hg hb ho hle hw hocc hog hfr hcs hk
          obtain ⟨w', hrun, h2, h3, h4, h5, h6, h7⟩ := run_storeVar_row' ht hT hc (hlen.trans hql) hg hle h1
          have hex : (execOp a.eval ⟨none, .store T x y, ty, pos, after, guard⟩).run Γ.P w = .ok .skip w' := by
            simp [execOp, Instr.storeAt, hv, Instr.sureAddr, hb, ho, hrun]
          unfold Oper.wp
          rw [hex]
          refine ⟨_, ρ, hk, ⟨H.nx, H.fr, H.size, H.dfr, H.mem.upd c ch' hw hocc (fun k hk => h3 k (fun e => hk (by rw [e]; exact hog))) (by omega) (H.mem.frm.step h5 h6 h7 (by omega) (fun k hk hx => h3 k ?_)) (hcs w' h2 h3 h4)⟩⟩
          rintro rfl
          rcases hfr with hfr | hfr
          · omega
          · exact hx hfr
        split at h
        · rename_i t l hm
          simp only at hm hch
          rw [hm] at hch
          obtain ⟨L', us, k1, k2, k3, k4, k5, k6, k7⟩ := hch
          rw [hL] at k1; cases k1
          cases hb : (Nat.beq i 0 && Nat.ble (d + q.length) l.length) with
          | false => rw [hb] at h; exact h.elim
          | true =>
            rw [hb] at h
            simp only [Bool.and_eq_true] at hb
            have hi0 := Nat.eq_of_beq_eq_true hb.1
            subst hi0
            have hb := hb.2
            simp only [cond_true, frc_eq] at h
            have hul := k5.length
            have hle := Nat.le_of_ble_eq_true hb
            refine step L.blk d t us (.box t (setSeg l d q)) k4 rfl (by rw [k2]; omega) (by omega) (by rw [hm]; rfl) (by rw [hm]; exact fun b o => o) (by rw [hm]; exact ⟨L, hL, rfl⟩) k7 ?_ h
            intro w' e1 _ _
            exact ⟨L, _, hL, k2, by rw [setSeg_len]; exact k3, e1, setSeg_rel hr d k5, setV_mem _ _ _ k6 h1, k7⟩
        · rename_i e sz n f hm
          simp only at hm hch
          rw [hm] at hch
          obtain ⟨hi, h⟩ := h
          cases hb : Nat.ble (d + q.length) sz with
          | false => rw [hb] at h; exact h.elim
          | true =>
            rw [hb] at h
            obtain ⟨f', hf1, hf2, hk⟩ := h
            have hle := Nat.le_of_ble_eq_true hb
            obtain ⟨L', us, k1, k2, k3, k4, k5, k6, k7⟩ := hch
            rw [hL] at k1; cases k1
            obtain ⟨kl, kr⟩ := k4
            rcases kr with ⟨_, hn⟩ | ⟨g, cap, cur, hv', hbg, hg, hnc, hcm, hcs, htk⟩
            · omega
            · obtain ⟨hgb, hmay⟩ := k5 g (by rw [hv']; rfl)
              have hmul : (i + 1) * sz ≤ n * sz := Nat.mul_le_mul_right _ hi
              have hmul2 : n * sz ≤ cap * sz := Nat.mul_le_mul_right _ hnc
              have hexp : (i + 1) * sz = i * sz + sz := by rw [Nat.add_mul, Nat.one_mul]
              have hcl : cur.toList.length = cap * sz := by simpa using hcs
              refine step g (i * sz + d) e cur.toList (.own e sz n f') (by simpa using hg) hgb (by rw [k3, k2]; omega) (by omega) (by rw [hm]; rfl) (by rw [hm]; exact fun b o => o) (by rw [hm]; exact ⟨L, hL, by rw [hv']; rfl⟩) hmay ?_ hk
              intro w' e1 _ _
              refine ⟨L, setV us (i * sz + d) vs, hL, k2, k3, ⟨by rw [setV_len]; exact kl, .inr ⟨g, cap, _, hv', hbg, e1, hnc, hcm, by simp [setV_len]; exact hcs, ?_⟩⟩, k5, setV_mem _ _ _ k6 h1, ?_⟩
              · rw [List.toList_toArray, setV_take _ _ _ _ (by omega), htk]
              · intro j hj
                by_cases hji : j = i
                · subst hji
                  rw [hf1, setV_part_same _ _ _ _ _ (by omega)]
                  exact setSeg_rel hr d (k7 j hj)
                · rw [hf2 j hj hji, setV_part_other]
                  · exact k7 j hj
                  · rcases Nat.lt_or_gt_of_ne hji with hlt | hgt
                    · right
                      have : (j + 1) * sz ≤ i * sz := Nat.mul_le_mul_right _ hlt
                      rw [Nat.add_mul] at this; omega
                    · left
                      have : (i + 1) * sz ≤ j * sz := Nat.mul_le_mul_right _ hgt
                      omega
        · exact h.elim
      split at h
      · rename_i q he2
        rw [he2] at hy
        obtain ⟨vs, hv2, hr, h1⟩ := rel_a hy
        cases hb : Nat.beq q.length ti.size with
        | false => rw [hb] at h; exact h.elim
        | true => rw [hb] at h; exact fin q vs (by rw [hv2]; rfl) hr h1 (Nat.eq_of_beq_eq_true hb) h
      · cases hb : (Nat.beq ti.size 1 && (ev s y).one) with
        | false => rw [hb] at h; exact h.elim
        | true =>
          rw [hb] at h
          simp only [Bool.and_eq_true] at hb
          have h1 := hy.one hb.2
          refine fin [ev s y] [a.eval y] ?_ ?_ ?_ (by have := Nat.eq_of_beq_eq_true hb.1; simp [this]) h
          · cases hxx : a.eval y <;> first | rfl | (rw [hxx] at h1; cases h1)
          · simp only [RelL]; exact ⟨_, _, rfl, hy, rfl⟩
          · intro z hz; simp at hz; subst hz; exact h1
  · exact h ρ a w Q H
end
end Go.Proofs.Ytdabahipeepheaa.Vc

namespace Go.Proofs.Ytdabahipeepheaa.Vc
open Go Go.RowKit

section
variable {Γ : Cx} {ρ : List Loc} {s : St} {a : Act} {w : World} {K : St → Prop} {dst : Option Nat} {ty : TypeId} {pos : String} {after : Array Edge} {guard : Option (Nat × Bool)} {Q : Exit → Act → World → Prop}

/-- The cells of a slice that is written out: one element behind the other. -/
theorem litS_sound (H : Holds Γ.B Γ.N ρ s a w) {sz : Nat} : ∀ (parts : List (Nat × Operand)) (k : Nat) (l : List (List SV)) (K : List (List SV) → Prop) (us : List Value), litS s sz k parts l K → RelL ρ l.reverse.flatten us → (∀ q ∈ l, q.length = sz) → (∀ x ∈ us, x.oneCell' = true) → l.length = k →
    ∃ l' vs, K l' ∧ RelL ρ l'.flatten vs ∧ l'.length = k + parts.length ∧ (∀ q ∈ l', q.length = sz) ∧ (∀ x ∈ vs, x.oneCell' = true) ∧
      ∀ (cells : List Value), cells.take (k * sz) = us → cells.length = (k + parts.length) * sz → Instr.fill (fun i => some (i * sz, sz)) cells.toArray (parts.map fun (i, x) => (i, a.eval x)) = some vs.toArray
  | [], k, l, K, us, h, hr, hq, h1, hk => by
    refine ⟨l.reverse, us, h, hr, by simp [hk], fun q hq' => hq q (by simpa using hq'), h1, fun cells hc hl => ?_⟩
    have : cells = us := by rw [← hc]; simp at hl; rw [List.take_of_length_le (by omega)]
    subst this
    simp [Instr.fill]
  | (i, x) :: r, k, l, K, us, h, hr, hq, h1, hk => by
    simp only [litS] at h
    cases hb : Nat.beq i k with
    | false => rw [hb] at h; exact h.elim
    | true =>
      rw [hb] at h
      have hik := Nat.eq_of_beq_eq_true hb
      subst hik
      simp only [cond_true] at h
      have hx := H.ev x
      have step : ∀ (q : List SV) (vs : List Value), (a.eval x).cells = vs.toArray → RelL ρ q vs → q.length = sz → (∀ y ∈ vs, y.oneCell' = true) → litS s sz (i + 1) r (q :: l) K →
          ∃ l' vs, K l' ∧ RelL ρ l'.flatten vs ∧ l'.length = i + ((i, x) :: r).length ∧ (∀ q ∈ l', q.length = sz) ∧ (∀ x ∈ vs, x.oneCell' = true) ∧
            ∀ (cells : List Value), cells.take (i * sz) = us → cells.length = (i + ((i, x) :: r).length) * sz → Instr.fill (fun i => some (i * sz, sz)) cells.toArray (((i, x) :: r).map fun (i, x) => (i, a.eval x)) = some vs.toArray := by
        intro q vs hc hrq hql h1q h
        have hlen := hrq.length
        obtain ⟨l', ws, k1, k2, k3, k4, k5, k6⟩ := litS_sound H r (i + 1) (q :: l) K (us ++ vs) h (by simpa using hr.append hrq) (by intro q' hq'; rcases List.mem_cons.1 hq' with rfl | h'; exact hql; exact hq q' h')
          (by intro y hy; rcases List.mem_append.1 hy with h' | h'; exact h1 y h'; exact h1q y h') (by simp [hk])
        refine ⟨l', ws, k1, k2, by simp at k3 ⊢; omega, k4, k5, fun cells hc2 hl2 => ?_⟩
        have hul : us.length = i * sz := by rw [← hc2]; simp [hl2, List.length_cons]
        have hexp : (i + (r.length + 1)) * sz = i * sz + sz + r.length * sz := by rw [Nat.add_mul, Nat.add_mul, Nat.one_mul]; omega
        simp only [List.map_cons, Instr.fill, hc, List.size_toArray]
        rw [if_neg (by simp only [Bool.or_eq_true, decide_eq_true_eq, List.length_cons] at hl2 ⊢; omega), fold_arr]
        have := k6 (setV cells (i * sz) vs) ?_ ?_
        · simpa using this
        · have hss : (i + 1) * sz = i * sz + vs.length := by rw [Nat.add_mul, Nat.one_mul, hlen, hql]
          rw [hss]
          apply List.ext_getElem?
          intro j
          rw [List.getElem?_take]
          split
          · rename_i hj
            rcases Nat.lt_or_ge j (i * sz) with hlt | hge
            · rw [setV_get _ _ _ _ (.inl hlt), List.getElem?_append_left (by omega), ← hc2, List.getElem?_take, if_pos hlt]
            · rw [List.getElem?_append_right (by omega), hul]
              have := setV_part_same vs cells (i * sz) vs.length 0 (by omega)
              have h2 : (((setV cells (i * sz + 0) vs).drop (i * sz)).take vs.length)[j - i * sz]? = (setV cells (i * sz) vs)[j]? := by
                rw [List.getElem?_take, if_pos (by omega), List.getElem?_drop, Nat.add_zero]
                congr 1; omega
              rw [← h2, this]
              have h3 : setV ((cells.drop (i * sz)).take vs.length) 0 vs = vs := by
                have hcl : ((cells.drop (i * sz)).take vs.length).length = vs.length := by simp [hl2, List.length_cons]; omega
                have gen : ∀ (vs l p : List Value), l.length = vs.length → setV (p ++ l) p.length vs = p ++ vs := by
                  intro vs
                  induction vs with
                  | nil => intro l p h; simp [setV]; simpa using h
                  | cons v r ih =>
                    intro l p h
                    match l, h with
                    | u :: l', h =>
                      simp only [setV]
                      have := ih l' (p ++ [v]) (by simpa using h)
                      simp at this
                      rw [List.set_append_right _ _ (Nat.le_refl _)]
                      simpa using this
                simpa using gen vs _ [] hcl
              rw [h3]
          · rename_i hj
            rw [List.getElem?_eq_none]
            simp; omega
        · rw [setV_len, hl2]; simp only [List.length_cons]; congr 1; omega
      split at h
      · rename_i q he
        rw [he] at hx
        obtain ⟨vs, hv, hrq, h1q⟩ := rel_a hx
        cases hb2 : Nat.beq q.length sz with
        | false => rw [hb2] at h; exact h.elim
        | true => rw [hb2] at h; exact step q vs (by rw [hv]; rfl) hrq (Nat.eq_of_beq_eq_true hb2) h1q h
      · cases hb2 : (Nat.beq sz 1 && (ev s x).one) with
        | false => rw [hb2] at h; exact h.elim
        | true =>
          rw [hb2] at h
          simp only [Bool.and_eq_true] at hb2
          have h1x := hx.one hb2.2
          refine step [ev s x] [a.eval x] ?_ ?_ (by have := Nat.eq_of_beq_eq_true hb2.1; simp [this]) ?_ h
          · cases hxx : a.eval x <;> first | rfl | (rw [hxx] at h1x; cases h1x)
          · simp only [RelL]; exact ⟨_, _, rfl, hx, rfl⟩
          · intro z hz; simp at hz; subst hz; exact h1x

theorem nthL_eq : ∀ (l : List (List SV)) (n : Nat), nthL l n = l.getD n []
  | [], n => by simp [nthL]
  | x :: r, 0 => by simp [nthL]
  | x :: r, n + 1 => by simp [nthL, nthL_eq r n]
theorem flatten_part {ρ : List Loc} {sz : Nat} : ∀ (l : List (List SV)) (vs : List Value), RelL ρ l.flatten vs → (∀ q ∈ l, q.length = sz) → ∀ i, i < l.length → RelL ρ (l.getD i []) ((vs.drop (i * sz)).take sz)
  | [], vs, _, _, i, hi => by simp at hi
  | q :: r, vs, h, hq, i, hi => by
    have hql := hq q (by simp)
    simp only [List.flatten_cons] at h
    have h1 := h.take sz
    have h2 := h.drop sz
    rw [List.take_append_of_le_length (by omega), List.take_of_length_le (by omega)] at h1
    rw [List.drop_append_of_le_length (by omega), List.drop_of_length_le (by omega), List.nil_append] at h2
    cases i with
    | zero => simpa using h1
    | succ i =>
      have := flatten_part r _ h2 (fun q hq' => hq q (by simp [hq'])) i (by simpa using hi)
      simp only [List.getD_cons_succ]
      rw [List.drop_drop] at this
      rw [show (i + 1) * sz = sz + i * sz by rw [Nat.add_mul]; omega]
      exact this

theorem e_buildSlice (ht : Tab.ok Γ.P Γ.tab) (H : Holds Γ.B Γ.N ρ s a w) {T n : Nat} {parts : Array (Nat × Operand)} (h : vcOp Γ s ⟨dst, .buildSlice T n parts, ty, pos, after, guard⟩ K) : Oper.wp Γ.P ⟨dst, .buildSlice T n parts, ty, pos, after, guard⟩ a w (After Γ K) Q := by
  simp only [vcOp] at h
  split at h
  · rename_i ti hT
    obtain ⟨desc, hu, hd⟩ := tab_und ht hT
    split at h
    · rename_i e hde
      rw [hde] at hd
      simp only [TD.ok] at hd
      subst hd
      split at h
      · rename_i te he
        cases hb : (Nat.beq parts.toList.length n && Nat.ble (n * te.size) 65536 && Nat.blt 0 te.size) with
        | false => rw [hb] at h; exact h.elim
        | true =>
          rw [hb] at h
          simp only [Bool.and_eq_true] at hb
          have hn := Nat.eq_of_beq_eq_true hb.1.1
          have hle := Nat.le_of_ble_eq_true hb.1.2
          have hpos : 0 < te.size := blt_lt hb.2
          obtain ⟨l', vs, k1, k2, k3, k4, k5, k6⟩ := litS_sound H parts.toList 0 [] _ [] h (by simp [RelL]) (by simp) (by simp) rfl
          have hsz := tab_size ht he w
          obtain ⟨z, hz, hzl⟩ := tab_zero ht he w
          have hzs : z.cells.size = te.size := by rw [← Array.length_toList, hzl, (ht e te he).len]
          have hfill := k6 ((Array.range (n * te.size)).map (z.cells[· % z.cells.size]!)).toList (by simp) (by simp [hn])
          have hvl : vs.length = n * te.size := by
            rw [k2.length, List.length_flatten]
            have : l'.map List.length = List.replicate l'.length te.size := List.eq_replicate_iff.2 ⟨by simp, by simpa using k4⟩
            rw [this, List.sum_replicate_nat, k3]
            simp at hn ⊢
            rw [hn]
          refine wp_value (v := .slice (some ⟨w.heap.size, 0, none⟩) n n) (w' := w.alloc (.cells vs.toArray e)) ?_ ?_
          · have hn16 : ¬ (n * te.size > 2 ^ 24) := by omega
            have hp' : Instr.fill (fun i => some (i * te.size, te.size)) ((Array.range (n * te.size)).map (z.cells[· % z.cells.size]!)) (parts.map fun (i, x) => (i, a.eval x)).toList = some vs.toArray := by
              rw [Array.toArray_toList] at hfill
              rw [Array.toList_map]
              exact hfill
            by_cases h0 : n * te.size = 0
            · have hn0 : n = 0 := by
                rcases Nat.mul_eq_zero.1 h0 with h | h
                · exact h
                · omega
              subst hn0
              have hpe : parts = #[] := by cases parts; simpa using hn
              subst hpe
              have : vs = [] := List.eq_nil_of_length_eq_zero (by simpa using hvl)
              subst this
              simp only [execOp, Instr.buildSlice, Sem.run_bind, run_underlying hu, Result.andThen_ok, hsz]
              simp only [if_neg hn16, if_pos h0, Sem.run_pure]
              have hz0 : Array.range (0 * te.size) = #[] := by rw [Nat.zero_mul]; rfl
              rw [hz0]
              simp [Instr.fill, newRow]
            · simp only [execOp, Instr.buildSlice, Sem.run_bind, run_underlying hu, Result.andThen_ok, hsz]
              simp only [if_neg hn16, if_neg h0, Sem.run_bind, hz, Result.andThen_ok, Sem.run_pure]
              rw [hp']
              simp [newRow]
          · refine new_sound H k1 ((Below.refl _ _).alloc (Nat.le_refl _) _) ⟨w.heap.size, 0, te.size, .slice (some ⟨w.heap.size, 0, none⟩) n n⟩ ?_ ?_ ?_
            · have hml : n ≤ maxLen := by
                have : n * 1 ≤ n * te.size := Nat.mul_le_mul_left _ hpos
                simp only [maxLen]; omega
              refine ⟨_, vs, last_get _ _, rfl, rfl, ?_, fun b hb => (by have hb' : w.heap.size = b := (by simpa [Value.ownBlock] using hb); exact ⟨hb', .inl (by have := H.mem.frm.size; omega)⟩), k5, fun i hi => ?_⟩
              · have := World.ownsRow_lit (base := 0) (e := e) (size := te.size) w vs.toArray n (Nat.zero_le _) hml (by simpa using hvl)
                simpa using this
              · rw [nthL_eq]
                exact flatten_part l' vs (RelL.mono (Ext.app _ _) _ _ k2) k4 i (by rw [k3]; simp at hn ⊢; omega)
            · rintro b ⟨L, hL, hb⟩
              rw [last_get] at hL; cases hL
              simp [Value.ownBlock] at hb; omega
            · simp only [Rel]; exact ⟨_, last_get _ _, rfl, rfl⟩
      · exact h.elim
    · exact h.elim
  · exact h.elim
end
end Go.Proofs.Ytdabahipeepheaa.Vc

namespace Go.Proofs.Ytdabahipeepheaa.Vc
open Go Go.RowKit

section
variable {Γ : Cx} {ρ : List Loc} {s : St} {a : Act} {w : World} {K : St → Prop} {dst : Option Nat} {ty : TypeId} {pos : String} {after : Array Edge} {guard : Option (Nat × Bool)} {Q : Exit → Act → World → Prop}

theorem e_makeSlice (ht : Tab.ok Γ.P Γ.tab) (H : Holds Γ.B Γ.N ρ s a w) {T : Nat} {x y : Operand} (h : vcOp Γ s ⟨dst, .makeSlice T x y, ty, pos, after, guard⟩ K) : Oper.wp Γ.P ⟨dst, .makeSlice T x y, ty, pos, after, guard⟩ a w (After Γ K) Q := by
  simp only [vcOp] at h
  have hx := H.ev x
  have hy := H.ev y
  split at h
  · rename_i n m he he2
    rw [he] at hx
    rw [he2] at hy
    split at h
    · rename_i ti hT
      obtain ⟨desc, hu, hd⟩ := tab_und ht hT
      split at h
      · rename_i e hde
        rw [hde] at hd
        simp only [TD.ok] at hd
        subst hd
        split at h
        · rename_i te he3
          obtain ⟨⟨rfl, h0, h1, h2⟩, hk⟩ := h
          obtain ⟨j, z, k1, k2, k3, k4, k5⟩ := (ht e te he3).info
          obtain ⟨n', rfl⟩ := Int.eq_ofNat_of_zero_le h0
          simp only [Int.toNat_natCast] at h1 hk
          have hml : n' ≤ maxLen := by simp only [maxLen]; omega
          obtain ⟨w', hrun, hown, hgr⟩ := run_make_full (P := Γ.P) (w := w) 0 T e j z te.size hu k1 k2 k4 .i64 .i64 n' (by rw [k5]; omega) hml (Nat.zero_le _)
          refine wp_value (v := .slice (some ⟨w.heap.size, 0, none⟩) n' n') (w' := w') ?_ ?_
          · simp only [execOp, rel_v hx, rel_v hy, Sem.run_bind]
            rw [hrun]; rfl
          · have hb : Below w.heap.size w w' := ⟨hgr.os, hgr.tape, hgr.output, hgr.size, fun k hk => hgr.block k hk (by simp)⟩
            have hzl := (ht e te he3).len
            have hz1 := (ht e te he3).one
            have hzs : z.cells.size = te.size := by rw [← Array.length_toList, k3, hzl]
            refine new_sound H hk hb ⟨w.heap.size, 0, te.size, .slice (some ⟨w.heap.size, 0, none⟩) n' n'⟩ ?_ ?_ ?_
            · refine ⟨_, _, last_get _ _, rfl, rfl, hown, fun b hb => (by have hb' : w.heap.size = b := (by simpa [Value.ownBlock] using hb); exact ⟨hb', .inl (by have := H.mem.frm.size; omega)⟩), fun x hx => ?_, fun i hi => ?_⟩
              · simp only [madeCells, Array.toList_map, List.mem_map] at hx
                obtain ⟨q, hq, rfl⟩ := hx
                rcases Nat.eq_zero_or_pos te.size with h | h
                · rw [h] at hq; simp at hq
                · have hlt : q % z.cells.size < z.cells.size := Nat.mod_lt _ (by omega)
                  rw [getElem!_pos z.cells _ hlt]
                  have : z.cells[q % z.cells.size] ∈ te.zero := by rw [← k3]; simp
                  exact hz1 _ this
              · have e1 : (((madeCells z.cells (n' * te.size)).toList.drop (i * te.size)).take te.size) = te.zero := by
                  apply List.ext_getElem?
                  intro q
                  rw [List.getElem?_take]
                  split
                  · rename_i hq
                    have hin : i * te.size + q < n' * te.size := by
                      have : (i + 1) * te.size ≤ n' * te.size := Nat.mul_le_mul_right _ hi
                      rw [Nat.add_mul] at this; omega
                    rw [List.getElem?_drop]
                    simp only [madeCells, Array.toList_map, List.getElem?_map, Array.toList_range, List.getElem?_range hin, Option.map_some]
                    have hm : (i * te.size + q) % z.cells.size = q := by rw [hzs, Nat.add_comm, Nat.add_mul_mod_self_right]; exact Nat.mod_eq_of_lt hq
                    rw [hm, getElem!_pos z.cells q (by omega), ← k3]
                    simp [hzs, hq]
                  · rename_i hq
                    rw [List.getElem?_eq_none (by omega)]
                rw [e1]
                exact (RelL.plain _ _).2 rfl
            · rintro b ⟨L, hL, hb⟩
              rw [last_get] at hL; cases hL
              simp [Value.ownBlock] at hb; omega
            · simp only [Rel]; exact ⟨_, last_get _ _, rfl, rfl⟩
        · exact h.elim
      · exact h.elim
    · exact h.elim
  · exact h ρ a w Q H

theorem run_append_of_nil' {P : Program} (w : World) (base : Nat) (t ty e : TypeId) (i : TypeInfo) (size : Nat) (ht : P.underlying t = some (.slice e)) (hi : P.info? e = some i)
    (v : Value) (n : Nat) (xs : List Value) (hown : w.ownsRow base e size v n xs) (c : Nat) : (Builtin.append_ #[t, t] ty #[v, .slice none 0 c]).run P w = .ok v w := by
  rcases hown.2 with ⟨rfl, rfl⟩ | ⟨g, cap, cur, rfl, _, _, hnc, _⟩
  · simp [Builtin.append_, run_underlying ht, sizeOf, typeInfo, hi, Builtin.lenOf, Builtin.firstCells]
  · simp [Builtin.append_, run_underlying ht, sizeOf, typeInfo, hi, Builtin.lenOf, Builtin.firstCells, hnc, storeCells]

/-- Where an append takes its elements from. -/
theorem srcOf_sound {B : Bs} {N : Nat} (H : Holds B N ρ s a w) {sz : Nat} {x : SV} {v : Value} (hx : Rel ρ x v) {K : Nat → Nat → (Nat → List SV) → Prop} (h : srcOf s.mem sz x K) :
    ∃ (i m : Nat) (g : Nat → List SV) (A : Option Addr) (k : Nat) (news : List Value), K i m g ∧ v = .slice A m k ∧ news.length = m * sz ∧ (∀ y ∈ news, y.oneCell' = true) ∧ (∀ j, j < m → RelL ρ (g (i + j)) ((news.drop (j * sz)).take sz)) ∧
      (0 < m → ∃ b o, A = some ⟨b, o, none⟩ ∧ ∀ j u, news[j]? = some u → w.cell? ⟨b, o + j, none⟩ = some u) := by
  unfold srcOf at h
  have part : ∀ (L : Loc) (c i n : Nat) (f : Nat → List SV), ρ[c]? = some L → L.sz = sz → (∀ j, j < n → ∃ vs, RelL ρ (f (i + j)) vs ∧ vs.length = sz ∧ (∀ y ∈ vs, y.oneCell' = true) ∧ ∀ q u, vs[q]? = some u → w.cell? ⟨L.blk, L.off + (i + j) * sz + q, none⟩ = some u) →
      ∃ news : List Value, news.length = n * sz ∧ (∀ y ∈ news, y.oneCell' = true) ∧ (∀ j, j < n → RelL ρ (f (i + j)) ((news.drop (j * sz)).take sz)) ∧ ∀ j u, news[j]? = some u → w.cell? ⟨L.blk, L.off + i * sz + j, none⟩ = some u := by
    intro L c i n f hL hs
    induction n with
    | zero => intro _; exact ⟨[], by simp, by simp, fun j hj => absurd hj (by omega), fun j u hu => by simp at hu⟩
    | succ n ih =>
      intro hj
      obtain ⟨news, h1, h2, h3, h4⟩ := ih (fun j hj' => hj j (by omega))
      obtain ⟨vs, r1, r2, r3, r4⟩ := hj n (by omega)
      refine ⟨news ++ vs, by rw [List.length_append, h1, r2, Nat.add_mul]; omega, fun y hy => ?_, fun j hj' => ?_, fun j u hu => ?_⟩
      · rcases List.mem_append.1 hy with h | h
        · exact h2 y h
        · exact r3 y h
      · rcases Nat.lt_or_ge j n with hlt | hge
        · have hle : (j + 1) * sz ≤ n * sz := Nat.mul_le_mul_right _ hlt
          rw [Nat.add_mul] at hle
          rw [List.drop_append_of_le_length (by omega), List.take_append_of_le_length (by simp; omega)]
          exact h3 j hlt
        · have : j = n := by omega
          subst this
          rw [← h1, List.drop_left, List.take_of_length_le (by omega)]
          exact r1
      · rcases Nat.lt_or_ge j (n * sz) with hlt | hge
        · rw [List.getElem?_append_left (by omega)] at hu
          exact h4 j u hu
        · rw [List.getElem?_append_right (by omega), h1] at hu
          have := r4 _ u hu
          rwa [show L.off + (i + n) * sz + (j - n * sz) = L.off + i * sz + j by rw [Nat.add_mul]; omega] at this
  have ownp : ∀ (L : Loc) (c e z n : Nat) (f : Nat → List SV), ChSat B ρ w c (.own e z n f) → ρ[c]? = some L → z = sz → ∀ i, i < n → ∃ vs, RelL ρ (f i) vs ∧ vs.length = sz ∧ (∀ y ∈ vs, y.oneCell' = true) ∧ ∀ q u, vs[q]? = some u → w.cell? ⟨L.blk, L.off + i * sz + q, none⟩ = some u := by
    intro L c e z n f hch hL hz i hi
    subst hz
    obtain ⟨L', vs, h1, h2, h3, h4, h5, h6, h7⟩ := hch
    rw [hL] at h1; cases h1
    refine ⟨(vs.drop (i * z)).take z, h7 i hi, ?_, fun x hx => h6 x (List.mem_of_mem_drop (List.mem_of_mem_take hx)), fun j u hu => ?_⟩
    · have hle : (i + 1) * z ≤ n * z := Nat.mul_le_mul_right _ hi
      have := h4.1
      rw [Nat.add_mul] at hle
      simp; omega
    · have hj : j < z := by
        rcases Nat.lt_or_ge j z with hlt | hge
        · exact hlt
        · rw [List.getElem?_take, if_neg (by omega)] at hu; cases hu
      rw [List.getElem?_take_of_lt hj, List.getElem?_drop] at hu
      rcases h4.2 with ⟨_, hn⟩ | ⟨g, cap, cur, hv, _⟩
      · omega
      · have hg : L.own.ownBlock = some g := by rw [hv]; rfl
        have hc := h4.cells (g := g) hg (i * z + j) u hu
        rw [Addr.add_lit] at hc
        rw [h3, (h5 g hg).1]
        simpa using hc
  split at h
  · rename_i c i n
    obtain ⟨L, A, k, hL, hv, hn, hc, hA⟩ := rel_s hx
    have hch := H.mem.ch c
    split at h
    · rename_i z nn f hm
      rw [hm] at hch
      cases hb : Nat.beq z sz with
      | false => rw [hb] at h; exact h.elim
      | true =>
        rw [hb] at h
        have hz := Nat.eq_of_beq_eq_true hb
        subst hz
        obtain ⟨hle, hk⟩ := h
        obtain ⟨L', k1, k2, k3, k4⟩ := hch
        rw [hL] at k1; cases k1
        obtain ⟨news, h1, h2, h3, h4⟩ := part L c i n f hL k2 (fun j hj => k4 (i + j) (by omega))
        exact ⟨i, n, f, A, k, news, hk, hv, h1, h2, h3, fun hp => ⟨_, _, hA hp, by rw [k2]; exact h4⟩⟩
    · rename_i e z nn f hm
      rw [hm] at hch
      cases hb : Nat.beq z sz with
      | false => rw [hb] at h; exact h.elim
      | true =>
        rw [hb] at h
        have hz := Nat.eq_of_beq_eq_true hb
        obtain ⟨hle, hk⟩ := h
        have ho := ownp L c e z nn f hch hL hz
        have hs : L.sz = sz := (own_form hch hL).1.trans hz
        obtain ⟨news, h1, h2, h3, h4⟩ := part L c i n f hL hs (fun j hj => ho (i + j) (by omega))
        exact ⟨i, n, f, A, k, news, hk, hv, h1, h2, h3, fun hp => ⟨_, _, hA hp, by rw [hs]; exact h4⟩⟩
    · exact h.elim
  · rename_i c
    obtain ⟨L, hL, hv⟩ := rel_o hx
    have hch := H.mem.ch c
    split at h
    · rename_i e z nn f hm
      rw [hm] at hch
      cases hb : Nat.beq z sz with
      | false => rw [hb] at h; exact h.elim
      | true =>
        rw [hb] at h
        have hz := Nat.eq_of_beq_eq_true hb
        have ho := ownp L c e z nn f hch hL hz
        obtain ⟨hs, hoff, A, k, hv', hn, hc, hA, _⟩ := own_form hch hL
        obtain ⟨news, h1, h2, h3, h4⟩ := part L c 0 nn f hL (hs.trans hz) (fun j hj => ho (0 + j) (by omega))
        exact ⟨0, nn, f, A, k, news, h, hv.trans hv', h1, h2, h3, fun hp => ⟨_, _, by rw [hA hp], fun j u hu => by have := h4 j u hu; rwa [hoff, Nat.zero_mul, Nat.add_zero] at this⟩⟩
    · exact h.elim
  · exact ⟨0, 0, _, none, 0, [], h, rel_v hx, by simp, by simp, fun j hj => absurd hj (by omega), fun hp => absurd hp (by omega)⟩
  · exact h.elim

theorem app_sound (ht : Tab.ok Γ.P Γ.tab) (H : Holds Γ.B Γ.N ρ s a w) {T e : Nat} {ti te : TI} {x y : Operand} {n : Nat} {f : Nat → List SV} {s' : St} {v : Value} {xs : List Value} (hT : tget Γ.tab T = some ti) (hde : ti.d = .sl e) (he : tget Γ.tab e = some te) (hpos : 0 < te.size)
    (hv : a.eval x = v) (hown : w.ownsRow 0 e te.size v n xs) (hvm : ∀ b, v.ownBlock = some b → Γ.B.May b) (hfx : ∀ j, j < n → RelL ρ (f j) ((xs.drop (j * te.size)).take te.size)) (hx1 : ∀ z ∈ xs, z.oneCell' = true)
    (hs' : Holds Γ.B Γ.N ρ s' a w) (hfree : ∀ d b, Occ ρ d (mget s'.mem d) b → v.ownBlock ≠ some b)
    (h : srcOf s.mem te.size (ev s y) fun i m g => ((n + m) * te.bytes ≤ 140737488355328 ∧ n + m ≤ 9223372036854775807) ∧ ∃ f' : Nat → List SV, (∀ j, j < n → f' j = f j) ∧ (∀ j, j < m → f' (n + j) = g (i + j)) ∧ putN Γ.N s' dst (.own e te.size (n + m) f') .o K) :
    Oper.wp Γ.P ⟨dst, .call ⟨.builtin .append, #[x, y], #[T, T]⟩, ty, pos, after, guard⟩ a w (After Γ K) Q := by
  obtain ⟨i, m, g, A, k, news, ⟨⟨hb1, hb2⟩, f', hf1, hf2, hk⟩, hvy, hnl, hn1, hng, hnc⟩ := srcOf_sound H (H.ev y) h
  obtain ⟨desc, hu, hd⟩ := tab_und ht hT
  rw [hde] at hd
  simp only [TD.ok] at hd
  subst hd
  obtain ⟨j, z, k1, k2, k3, k4, k5⟩ := (ht e te he).info
  have hzs : z.cells.size = te.size := by rw [← Array.length_toList, k3, (ht e te he).len]
  have hml : n + m ≤ maxLen := by simp only [maxLen]; omega
  have main : ∃ v' w', (Builtin.append_ #[T, T] ty #[v, .slice A m k]).run Γ.P w = .ok v' w' ∧ w'.ownsRow 0 e te.size v' (n + m) (xs ++ news) ∧ w.grownBy w' v.ownBlock ∧ (v'.ownBlock = v.ownBlock ∨ v'.ownBlock = some w.heap.size) := by
    cases A with
    | none =>
      have hm : m = 0 := by
        rcases Nat.eq_zero_or_pos m with h | h
        · exact h
        · obtain ⟨b, o, hA, _⟩ := hnc h; cases hA
      subst hm
      have : news = [] := List.eq_nil_of_length_eq_zero (by simpa using hnl)
      subst this
      exact ⟨v, w, run_append_of_nil' w 0 T ty e j te.size hu k1 v n xs hown k, by simpa using hown, World.grownBy.refl w _, .inl rfl⟩
    | some ad =>
      have hcells : ∀ q u, news[q]? = some u → w.cell? (ad.add q) = some u := by
        intro q u hq
        rcases Nat.eq_zero_or_pos m with h | h
        · subst h
          have : news = [] := List.eq_nil_of_length_eq_zero (by simpa using hnl)
          subst this
          simp at hq
        · obtain ⟨b, o, hA, hc⟩ := hnc h
          cases hA
          rw [Addr.add_lit]
          exact hc q u hq
      obtain ⟨v', w', hr, h2, h3, _, h5⟩ := run_append_own_at (P := Γ.P) w 0 T ty e j z te.size te.bytes hu k1 k2 k4 k5 hzs hpos v n xs hown ad m k news hnl hcells hn1 hml hb1 (Nat.zero_le _)
      exact ⟨v', w', hr, h2, h3, h5⟩
  obtain ⟨v', w', hrun, hown', hgr, hbl⟩ := main
  refine wp_value (v := v') (w' := w') ?_ ?_
  · simp [execOp, resolve, invoke, builtin, hv, hvy, hrun]
  · obtain ⟨fr, mem, nx⟩ := s'
    have ex := Ext.app ρ [(⟨v'.ownBlock.getD 0, 0, te.size, v'⟩ : Loc)]
    have hm1 : MSat Γ.B ρ mem w' := hs'.mem.grow (fun c b o => hgr.block b (hs'.mem.occ_lt o) (fun e => hfree c b o e.symm)) hgr.size
      (H.mem.frm.step hgr.os hgr.tape hgr.output hgr.size (fun k hk hx => hgr.block k (Nat.lt_of_lt_of_le hk H.mem.frm.size) (fun e => by rcases hvm k e.symm with h | h; omega; exact hx h)))
    have hxl : xs.length = n * te.size := hown.1
    have hvm' : ∀ b, v'.ownBlock = some b → Γ.B.May b := by
      intro b hb
      rcases hbl with h | h
      · exact hvm b (by rw [← h]; exact hb)
      · rw [h] at hb; cases hb; exact .inl H.mem.frm.size
    have hch : ChSat Γ.B (ρ ++ [⟨v'.ownBlock.getD 0, 0, te.size, v'⟩]) w' ρ.length (.own e te.size (n + m) f') := by
      refine ⟨_, xs ++ news, last_get _ _, rfl, rfl, hown', fun b hb => ⟨by simp [hb], hvm' b hb⟩, fun z hz => ?_, fun q hq => ?_⟩
      · rcases List.mem_append.1 hz with h | h
        · exact hx1 z h
        · exact hn1 z h
      · refine RelL.mono ex _ _ ?_
        rcases Nat.lt_or_ge q n with hlt | hge
        · have hle : (q + 1) * te.size ≤ n * te.size := Nat.mul_le_mul_right _ hlt
          rw [Nat.add_mul] at hle
          rw [hf1 q hlt, List.drop_append_of_le_length (by omega), List.take_append_of_le_length (by simp; omega)]
          exact hfx q hlt
        · obtain ⟨r, rfl⟩ : ∃ r, q = n + r := ⟨q - n, by omega⟩
          rw [hf2 r (by omega), Nat.add_mul, List.drop_append, ← hxl, List.drop_of_length_le (by omega), List.nil_append]
          rw [show xs.length + r * te.size - xs.length = r * te.size by omega]
          exact hng r (by omega)
    have hm2 : MSat Γ.B (ρ ++ [⟨v'.ownBlock.getD 0, 0, te.size, v'⟩]) ((ρ.length, .own e te.size (n + m) f') :: mem) w' := hm1.add _ _ hch (fun c b _ o o' => by
      obtain ⟨L, hL, hb⟩ := o'
      rw [last_get] at hL; cases hL
      simp only at hb
      rcases hbl with h | h
      · rw [h] at hb; exact hfree c b o hb
      · rw [h] at hb; cases hb
        have := hs'.mem.occ_lt o
        simp at this) (fun b o => by
      obtain ⟨L, hL, hb⟩ := o
      rw [last_get] at hL; cases hL
      exact hvm' b hb)
    have hnx : ρ.length = nx := hs'.nx
    have H' : Holds Γ.B Γ.N (ρ ++ [⟨v'.ownBlock.getD 0, 0, te.size, v'⟩]) ⟨fr, (nx, .own e te.size (n + m) f') :: mem, nx + 1⟩ a w' :=
      ⟨by simp [hnx], fun t => (hs'.fr t).mono ex, hs'.size, hs'.dfr, by rw [← hnx]; exact hm2⟩
    have hvo : v'.oneCell' = true := by
      rcases hown'.2 with ⟨h, _⟩ | ⟨g, cap, cur, h, _⟩ <;> rw [h] <;> rfl
    simp only [putN, fch_eq, fnat_eq] at hk
    obtain ⟨s'', hk', h', _, _⟩ := put_sound H' (x := .o nx) (v := v') (by simp only [Rel]; exact ⟨_, by rw [← hnx]; exact last_get _ _, rfl, hvo⟩) hk
    exact ⟨s'', _, hk', h'⟩

theorem e_append (ht : Tab.ok Γ.P Γ.tab) (H : Holds Γ.B Γ.N ρ s a w) {args : Array Operand} {tys : Array TypeId} (h : vcOp Γ s ⟨dst, .call ⟨.builtin .append, args, tys⟩, ty, pos, after, guard⟩ K) :
    Oper.wp Γ.P ⟨dst, .call ⟨.builtin .append, args, tys⟩, ty, pos, after, guard⟩ a w (After Γ K) Q := by
  simp only [vcOp] at h
  split at h
  · rename_i x y T T' hargs htys
    have ea : args = #[x, y] := by cases args; simpa using hargs
    have et : tys = #[T, T'] := by cases tys; simpa using htys
    subst ea et
    cases hb : Nat.beq T T' with
    | false => rw [hb] at h; exact h ρ a w Q H
    | true =>
      rw [hb] at h
      have := Nat.eq_of_beq_eq_true hb
      subst this
      simp only [cond_true] at h
      split at h
      · rename_i ti hT
        split at h
        · rename_i e hde
          split at h
          · rename_i te he
            cases hp : Nat.blt 0 te.size with
            | false => rw [hp] at h; exact h.elim
            | true =>
              rw [hp] at h
              simp only [cond_true] at h
              have hpos := blt_lt hp
              have hx := H.ev x
              split at h
              · rename_i c hex
                rw [hex] at hx
                obtain ⟨L, hL, hv⟩ := rel_o hx
                have hch := H.mem.ch c
                split at h
                · rename_i e' sz n f hm
                  rw [hm] at hch
                  cases hb2 : (Nat.beq e' e && Nat.beq sz te.size) with
                  | false => rw [hb2] at h; exact h.elim
                  | true =>
                    rw [hb2] at h
                    simp only [Bool.and_eq_true] at hb2
                    have h1 := Nat.eq_of_beq_eq_true hb2.1
                    have h2 := Nat.eq_of_beq_eq_true hb2.2
                    subst h1 h2
                    obtain ⟨fr, mem, nx⟩ := s
                    obtain ⟨L', xs, k1, k2, k3, k4, k5, k6, k7⟩ := hch
                    rw [hL] at k1; cases k1
                    refine app_sound ht H hT hde he hpos hv k4 (fun b hb => (k5 b hb).2) k7 k6 (s' := ⟨fr, (c, .non) :: mem, nx⟩) ⟨H.nx, H.fr, H.size, H.dfr, H.mem.drop c⟩ ?_ h
                    intro d b o e
                    rw [mget_cons] at o
                    split at o
                    · exact o.elim
                    · rename_i hne
                      refine H.mem.sep c d b hne (by simp only at hm; rw [hm]; rfl) (by simp only at hm; rw [hm]; exact ⟨L, hL, e⟩) o
                · exact h.elim
              · rename_i hex
                rw [hex] at hx
                exact app_sound ht H hT hde he hpos (rel_v hx) (World.ownsRow_nil w _ _ _) (fun b hb => by cases hb) (fun j hj => absurd hj (by omega)) (by simp) (s' := s) H (fun d b _ e => by cases e) h
              · exact h ρ a w Q H
          · exact h.elim
        · exact h ρ a w Q H
      · exact h.elim
  · exact h ρ a w Q H

theorem e_call (H : Holds Γ.B Γ.N ρ s a w) {f : Operand} {args : Array Operand} {tys : Array TypeId} (h : vcOp Γ s ⟨dst, .call ⟨.value f, args, tys⟩, ty, pos, after, guard⟩ K) :
    Oper.wp Γ.P ⟨dst, .call ⟨.value f, args, tys⟩, ty, pos, after, guard⟩ a w (After Γ K) Q := by
  simp only [vcOp] at h
  split at h
  · rename_i g caps he
    have hf := H.ev f
    rw [he] at hf
    obtain ⟨vs, hv, hr⟩ := rel_f hf
    obtain ⟨⟨fn, hfn, hname, hbody⟩, hcall⟩ := h
    have := hcall ρ a w (args.toList.map a.eval ++ vs) H ((relL_map H _).append hr)
    have hex : (execOp a.eval ⟨dst, .call ⟨.value f, args, tys⟩, ty, pos, after, guard⟩).run Γ.P w = .ok (.enter g (args.toList.map a.eval ++ vs).toArray) w := by
      have e1 : (args.toList.map a.eval ++ vs).toArray = args.map a.eval ++ vs.toArray := by cases args; simp
      simp only [execOp, resolve, hv, Deferred.ofValue, invoke, Sem.run_bind, Sem.run_pure, Result.andThen_ok, callFunc, run_program, hfn, hname, hbody]
      simp [e1]
    unfold Oper.wp
    rw [hex]
    simp only [Oper.upon]
    refine this.mono ?_
    rintro e w' ⟨v, x, s', ρ', rfl, hext, hx, hk, H'⟩
    simp only
    obtain ⟨s'', hk', h', _, _⟩ := put_sound H' hx hk
    exact ⟨s'', ρ', hk', h'⟩
  · exact h ρ a w Q H
end
end Go.Proofs.Ytdabahipeepheaa.Vc
