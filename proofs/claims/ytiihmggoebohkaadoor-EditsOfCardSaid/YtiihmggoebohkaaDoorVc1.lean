/- Verification conditions by symbolic execution over the model's code: the words, and what a state means. -/
import Derived.WalkKit
import Derived.WalkSpells
import Derived.WalkLawsBesides
import Derived.Below
import Derived.Maps.AppendAt
namespace Go.Proofs.YtiihmggoebohkaaDoor.Vc
open Go Go.RowKit

/-- Where a chunk lies: its block, its first cell, the cells of an element; of a row of the call's own: its owner's value. -/
structure Loc where
  blk : Nat
  off : Nat
  sz : Nat
  own : Value

/-- A symbolic value: plain; a pointer into chunk c (element i, cell o of it); a slice of it (n elements from i on); its owner; a struct or an array; a tuple; a function value; unknown. -/
inductive SV where
  | v (x : Value)
  | p (c i o : Nat)
  | s (c i n : Nat)
  | o (c : Nat)
  | a (l : List SV)
  | t (l : List SV)
  | f (fn : Nat) (l : List SV)
  | u

mutual
def Rel (ρ : List Loc) : SV → Value → Prop
  | .v x, y => y = x
  | .p c i o, y => ∃ L, ρ[c]? = some L ∧ y = .pointer (some ⟨L.blk, L.off + i * L.sz + o, none⟩)
  | .s c i n, y => ∃ L A k, ρ[c]? = some L ∧ y = .slice A n k ∧ n ≤ k ∧ k ≤ maxLen ∧ (0 < n → A = some ⟨L.blk, L.off + i * L.sz, none⟩)
  | .o c, y => ∃ L, ρ[c]? = some L ∧ y = L.own ∧ y.oneCell' = true
  | .a l, y => ∃ vs, y = .agg vs.toArray ∧ RelL ρ l vs ∧ ∀ x ∈ vs, x.oneCell' = true
  | .t l, y => ∃ vs, y = .tuple vs.toArray ∧ RelL ρ l vs
  | .f fn l, y => ∃ vs, y = .func (.func fn) #[] vs.toArray ∧ RelL ρ l vs
  | .u, _ => True
def RelL (ρ : List Loc) : List SV → List Value → Prop
  | [], vs => vs = []
  | x :: r, vs => ∃ v vr, vs = v :: vr ∧ Rel ρ x v ∧ RelL ρ r vr
end

def Ext (ρ ρ' : List Loc) : Prop := ∀ (c : Nat) (L : Loc), ρ[c]? = some L → ρ'[c]? = some L
theorem Ext.refl (ρ : List Loc) : Ext ρ ρ := fun _ _ h => h
theorem Ext.trans {ρ ρ' ρ'' : List Loc} (h : Ext ρ ρ') (k : Ext ρ' ρ'') : Ext ρ ρ'' := fun c L e => k c L (h c L e)
theorem Ext.app (ρ l : List Loc) : Ext ρ (ρ ++ l) := fun c L h => by
  rw [List.getElem?_append_left]; exact h
  exact (List.getElem?_eq_some_iff.1 h).1

mutual
theorem Rel.mono {ρ ρ' : List Loc} (h : Ext ρ ρ') : ∀ (x : SV) (y : Value), Rel ρ x y → Rel ρ' x y
  | .v _, _, k => by simpa only [Rel] using k
  | .p c _ _, _, k => by
    simp only [Rel] at k ⊢
    obtain ⟨L, e, r⟩ := k; exact ⟨L, h c L e, r⟩
  | .s c _ _, _, k => by
    simp only [Rel] at k ⊢
    obtain ⟨L, A, q, e, r⟩ := k; exact ⟨L, A, q, h c L e, r⟩
  | .o c, _, k => by
    simp only [Rel] at k ⊢
    obtain ⟨L, e, r⟩ := k; exact ⟨L, h c L e, r⟩
  | .a l, _, k => by
    simp only [Rel] at k ⊢
    obtain ⟨vs, e, r, q⟩ := k; exact ⟨vs, e, RelL.mono h l vs r, q⟩
  | .t l, _, k => by
    simp only [Rel] at k ⊢
    obtain ⟨vs, e, r⟩ := k; exact ⟨vs, e, RelL.mono h l vs r⟩
  | .f _ l, _, k => by
    simp only [Rel] at k ⊢
    obtain ⟨vs, e, r⟩ := k; exact ⟨vs, e, RelL.mono h l vs r⟩
  | .u, _, _ => by simp only [Rel]
theorem RelL.mono {ρ ρ' : List Loc} (h : Ext ρ ρ') : ∀ (l : List SV) (vs : List Value), RelL ρ l vs → RelL ρ' l vs
  | [], _, k => by simpa only [RelL] using k
  | x :: r, _, k => by
    simp only [RelL] at k ⊢
    obtain ⟨v, vr, e, h1, h2⟩ := k; exact ⟨v, vr, e, Rel.mono h x v h1, RelL.mono h r vr h2⟩
end

theorem RelL.length {ρ : List Loc} : ∀ {l : List SV} {vs : List Value}, RelL ρ l vs → vs.length = l.length
  | [], _, h => by simp only [RelL] at h; subst h; rfl
  | x :: r, _, h => by
    simp only [RelL] at h
    obtain ⟨v, vr, rfl, _, h2⟩ := h
    simp [RelL.length h2]
theorem RelL.get {ρ : List Loc} : ∀ {l : List SV} {vs : List Value}, RelL ρ l vs → ∀ {j : Nat} {x : SV}, l[j]? = some x → ∃ v, vs[j]? = some v ∧ Rel ρ x v
  | [], _, _, _, _, e => by simp at e
  | x :: r, _, h, j, y, e => by
    simp only [RelL] at h
    obtain ⟨v, vr, rfl, h1, h2⟩ := h
    cases j with
    | zero => simp at e; subst e; exact ⟨v, by simp, h1⟩
    | succ j => simpa using RelL.get h2 (j := j) (by simpa using e)
theorem RelL.drop {ρ : List Loc} : ∀ {l : List SV} {vs : List Value}, RelL ρ l vs → ∀ (j : Nat), RelL ρ (l.drop j) (vs.drop j)
  | l, vs, h, 0 => by simpa using h
  | [], _, h, j + 1 => by simp only [RelL] at h; subst h; simp [RelL]
  | x :: r, _, h, j + 1 => by
    simp only [RelL] at h
    obtain ⟨v, vr, rfl, _, h2⟩ := h
    simpa using RelL.drop h2 j
theorem RelL.take {ρ : List Loc} : ∀ {l : List SV} {vs : List Value}, RelL ρ l vs → ∀ (j : Nat), RelL ρ (l.take j) (vs.take j)
  | l, vs, h, 0 => by simp [RelL]
  | [], _, h, j + 1 => by simp only [RelL] at h; subst h; simp [RelL]
  | x :: r, _, h, j + 1 => by
    simp only [RelL] at h
    obtain ⟨v, vr, rfl, h1, h2⟩ := h
    simp only [List.take_succ_cons, RelL]
    exact ⟨_, _, rfl, h1, RelL.take h2 j⟩
theorem RelL.append {ρ : List Loc} : ∀ {l l' : List SV} {vs vs' : List Value}, RelL ρ l vs → RelL ρ l' vs' → RelL ρ (l ++ l') (vs ++ vs')
  | [], _, _, _, h, h' => by simp only [RelL] at h; subst h; simpa using h'
  | x :: r, _, _, _, h, h' => by
    simp only [RelL] at h
    obtain ⟨v, vr, rfl, h1, h2⟩ := h
    simp only [List.cons_append, RelL]
    exact ⟨_, _, rfl, h1, RelL.append h2 h'⟩
theorem RelL.set {ρ : List Loc} : ∀ {l : List SV} {vs : List Value}, RelL ρ l vs → ∀ (j : Nat) {x : SV} {v : Value}, Rel ρ x v → RelL ρ (l.set j x) (vs.set j v)
  | [], _, h, j, x, v, _ => by simp only [RelL] at h; subst h; simp [RelL]
  | y :: r, _, h, 0, x, v, k => by
    simp only [RelL] at h
    obtain ⟨v', vr, rfl, h1, h2⟩ := h
    simp only [List.set_cons_zero, RelL]
    exact ⟨_, _, rfl, k, h2⟩
  | y :: r, _, h, j + 1, x, v, k => by
    simp only [RelL] at h
    obtain ⟨v', vr, rfl, h1, h2⟩ := h
    simp only [List.set_cons_succ, RelL]
    exact ⟨_, _, rfl, h1, RelL.set h2 j k⟩
theorem RelL.plain {ρ : List Loc} : ∀ (vs us : List Value), RelL ρ (vs.map .v) us ↔ us = vs
  | [], us => by simp [RelL]
  | v :: r, us => by
    simp only [List.map_cons, RelL, Rel]
    constructor
    · rintro ⟨_, vr, rfl, rfl, h⟩; rw [(RelL.plain r vr).1 h]
    · rintro rfl; exact ⟨_, _, rfl, rfl, (RelL.plain r r).2 rfl⟩

/-- Is it a value of one cell? -/
def SV.one : SV → Bool
  | .v x => x.oneCell'
  | .p .. => true
  | .s .. => true
  | .o _ => true
  | .f .. => true
  | _ => false
theorem Rel.one {ρ : List Loc} {x : SV} {v : Value} (h : Rel ρ x v) (k : x.one = true) : v.oneCell' = true := by
  cases x with
  | v y => simp only [Rel] at h; subst h; exact k
  | p c i o => simp only [Rel] at h; obtain ⟨L, _, rfl⟩ := h; rfl
  | s c i n => simp only [Rel] at h; obtain ⟨L, A, q, _, rfl, _⟩ := h; rfl
  | o c => simp only [Rel] at h; obtain ⟨L, _, _, h⟩ := h; exact h
  | f g l => simp only [Rel] at h; obtain ⟨vs, rfl, _⟩ := h; rfl
  | a l => cases k
  | t l => cases k
  | u => cases k
def oneL : List SV → Bool
  | [] => true
  | x :: r => x.one && oneL r
theorem RelL.one {ρ : List Loc} : ∀ {l : List SV} {vs : List Value}, RelL ρ l vs → oneL l = true → ∀ x ∈ vs, x.oneCell' = true
  | [], vs, h, _, x, hx => by simp only [RelL] at h; subst h; simp at hx
  | y :: r, vs, h, k, x, hx => by
    simp only [RelL] at h
    obtain ⟨v, vr, rfl, h1, h2⟩ := h
    simp only [oneL, Bool.and_eq_true] at k
    rcases List.mem_cons.1 hx with rfl | hx
    · exact h1.one k.1
    · exact RelL.one h2 k.2 x hx

/-- What is known of a chunk: rows that are read, a row of the call's own, a variable (struct) of its own. -/
inductive Ch where
  | non
  | ro (sz n : Nat) (f : Nat → List SV)
  | own (e sz n : Nat) (f : Nat → List SV)
  | box (t : Nat) (l : List SV)
def Ch.wr : Ch → Bool
  | .own .. => true
  | .box .. => true
  | _ => false

abbrev Fr := List (Nat × SV)
def fget : Fr → Nat → SV
  | [], _ => .u
  | (m, x) :: r, n => bif Nat.beq m n then x else fget r n
abbrev Mem := List (Nat × Ch)
def mget : Mem → Nat → Ch
  | [], _ => .non
  | (m, x) :: r, n => bif Nat.beq m n then x else mget r n
structure St where
  fr : Fr
  mem : Mem
  nx : Nat

/-- What the call began with; the blocks of others that it may write; where the chunks lie that it began with. -/
structure Bs where
  w0 : World
  X : Nat → Prop
  r0 : List Loc
  glob : List (Nat × Value)

/-- A block that may be written: new, or one of those that are let. -/
def Bs.May (B : Bs) (b : Nat) : Prop := B.w0.heap.size ≤ b ∨ B.X b

def ChSat (B : Bs) (ρ : List Loc) (w : World) (c : Nat) : Ch → Prop
  | .non => True
  | .ro sz n f => ∃ L, ρ[c]? = some L ∧ L.sz = sz ∧ (0 < n → L.blk < w.heap.size) ∧
      ∀ i, i < n → ∃ vs, RelL ρ (f i) vs ∧ vs.length = sz ∧ (∀ x ∈ vs, x.oneCell' = true) ∧ ∀ j u, vs[j]? = some u → w.cell? ⟨L.blk, L.off + i * sz + j, none⟩ = some u
  | .own e sz n f => ∃ L vs, ρ[c]? = some L ∧ L.sz = sz ∧ L.off = 0 ∧ w.ownsRow 0 e sz L.own n vs ∧ (∀ b, L.own.ownBlock = some b → L.blk = b ∧ B.May b) ∧
      (∀ x ∈ vs, x.oneCell' = true) ∧ ∀ i, i < n → RelL ρ (f i) ((vs.drop (i * sz)).take sz)
  | .box t l => ∃ L vs, ρ[c]? = some L ∧ L.off = 0 ∧ L.sz = l.length ∧ w.heap[L.blk]? = some (.cells vs.toArray t (0, 0)) ∧ RelL ρ l vs ∧ (∀ x ∈ vs, x.oneCell' = true) ∧
      B.May L.blk

def Occ (ρ : List Loc) (c : Nat) (ch : Ch) (b : Nat) : Prop :=
  match ch with
  | .non => False
  | .ro _ n _ => 0 < n ∧ ∃ L, ρ[c]? = some L ∧ L.blk = b
  | .own .. => ∃ L, ρ[c]? = some L ∧ L.own.ownBlock = some b
  | .box .. => ∃ L, ρ[c]? = some L ∧ L.blk = b

def Sep (ρ : List Loc) (m : Mem) : Prop := ∀ c d b, c ≠ d → (mget m c).wr = true → Occ ρ c (mget m c) b → ¬ Occ ρ d (mget m d) b

structure Frm (B : Bs) (w : World) : Prop where
  os : w.os = B.w0.os
  tape : w.tape = B.w0.tape
  output : w.output = B.w0.output
  size : B.w0.heap.size ≤ w.heap.size
  block : ∀ k, k < B.w0.heap.size → ¬ B.X k → w.heap[k]? = B.w0.heap[k]?

/-- The package-level variables of which something is known: they stay. -/
def Bs.Glb (B : Bs) : Prop := ∀ (g : Nat) (v : Value), (g, v) ∈ B.glob → g < B.w0.heap.size ∧ ¬ B.X g ∧ B.w0.cell? ⟨g, 0, none⟩ = some v
theorem Frm.glb {B : Bs} {w : World} (h : Frm B w) (k : B.Glb) {g : Nat} {v : Value} (hm : (g, v) ∈ B.glob) : w.cell? ⟨g, 0, none⟩ = some v := by
  obtain ⟨h1, h2, h3⟩ := k g v hm
  rw [World.cell?_of_block (h.block g h1 h2)]; exact h3
structure MSat (B : Bs) (ρ : List Loc) (m : Mem) (w : World) : Prop where
  ch : ∀ c, ChSat B ρ w c (mget m c)
  sep : Sep ρ m
  frm : Frm B w
  ext : Ext B.r0 ρ
  glb : B.Glb
  fresh : ∀ c b, B.r0.length ≤ c → Occ ρ c (mget m c) b → B.May b

structure Holds (B : Bs) (N : Nat) (ρ : List Loc) (s : St) (a : Act) (w : World) : Prop where
  nx : ρ.length = s.nx
  fr : ∀ t, Rel ρ (fget s.fr t) (a.tmps.getD t undef)
  size : a.tmps.size = N
  dfr : a.defers = []
  mem : MSat B ρ s.mem w

theorem fget_cons (t : Nat) (x : SV) (r : Fr) (n : Nat) : fget ((t, x) :: r) n = if t = n then x else fget r n := by
  simp only [fget]
  by_cases h : t = n
  · subst h; simp [Nat.beq_refl]
  · rw [if_neg h]
    have : Nat.beq t n = false := by
      cases e : Nat.beq t n with
      | false => rfl
      | true => exact absurd (Nat.eq_of_beq_eq_true e) h
    rw [this]; rfl
theorem mget_cons (t : Nat) (x : Ch) (r : Mem) (n : Nat) : mget ((t, x) :: r) n = if t = n then x else mget r n := by
  simp only [mget]
  by_cases h : t = n
  · subst h; simp [Nat.beq_refl]
  · rw [if_neg h]
    have : Nat.beq t n = false := by
      cases e : Nat.beq t n with
      | false => rfl
      | true => exact absurd (Nat.eq_of_beq_eq_true e) h
    rw [this]; rfl
end Go.Proofs.YtiihmggoebohkaaDoor.Vc
