/- Verification conditions by symbolic execution: regions and code. -/
import Derived.Test.YtiihmggoebohkaaDoorVc12
import Derived.StillTail
namespace Go.Proofs.YtiihmggoebohkaaDoor.Vc
open Go Go.RowKit

section
variable {Γ : Cx} {ρ : List Loc} {s : St} {a : Act} {w : World} {K : St → Prop} {Q : Exit → Act → World → Prop}

theorem vcOp_sound (ht : Tab.ok Γ.P Γ.tab) (H : Holds Γ.B Γ.N ρ s a w) {o : Oper} (h : vcOp Γ s o K) : o.wp Γ.P a w (After Γ K) Q := by
  have val : (vcVal Γ.P Γ.tab s o fun x => put Γ.N s o.dst x K) → o.wp Γ.P a w (After Γ K) Q := by
    intro h
    obtain ⟨v, x, hr, hx, hp⟩ := vcVal_sound ht H h
    obtain ⟨s', hk, h', _, _⟩ := put_sound H hx hp
    exact wp_value hr ⟨s', ρ, hk, h'⟩
  obtain ⟨dst, op, ty, pos, after, guard⟩ := o
  cases op with
  | alloc T => exact e_alloc ht H h
  | box T x => exact e_box H h
  | store T x y => exact e_store ht H h
  | buildSlice T n parts => exact e_buildSlice ht H h
  | makeSlice T x y => exact e_makeSlice ht H h
  | call c =>
    obtain ⟨callee, args, tys⟩ := c
    cases callee with
    | value f => exact e_call H h
    | invoke r m => exact h ρ a w Q H
    | builtin b =>
      cases b with
      | append => exact e_append ht H h
      | len => exact val h
      | min => exact val h
      | max => exact val h
      | _ => exact h ρ a w Q H
  | mapUpdate => exact h ρ a w Q H
  | lookup => exact h ρ a w Q H
  | makeMap => exact h ρ a w Q H
  | range => exact h ρ a w Q H
  | next => exact h ρ a w Q H
  | insert => exact h ρ a w Q H
  | convert S T x =>
    simp only [vcOp] at h
    have hx := H.ev x
    split at h
    · rename_i tj ti k0 n hS hT he
      rw [he] at hx
      have hv := rel_v hx
      split at h
      · rename_i k hk
        obtain ⟨desc, hu, hd⟩ := tab_und ht hT
        obtain ⟨desc', hu', hd'⟩ := tab_und ht hS
        rw [hk] at hd
        simp only [TD.ok] at hd
        subst hd
        obtain ⟨e, hq⟩ := rng_wrap h
        obtain ⟨s', hk, h', _, _⟩ := put_sound H (x := .v (.int k n)) (v := .int k n) (by simp only [Rel]) hq
        refine wp_value (v := .int k n) ?_ ⟨s', ρ, hk, h'⟩
        simp only [execOp, hv, convert, Sem.run_bind, run_underlying hu', run_underlying hu, Result.andThen_ok]
        simp [Conv.intToInt, e]
      · exact h ρ a w Q H
    · exact h ρ a w Q H
  | _ => exact val h

def gslot : List Oper → Nat → Option Nat
  | [], _ => none
  | o :: _, 0 => o.dst
  | _ :: r, n + 1 => gslot r n
theorem gslot_eq : ∀ (l : List Oper) (n : Nat), gslot l n = l[n]?.bind (·.dst)
  | [], n => by simp [gslot]
  | x :: r, 0 => by simp [gslot]
  | x :: r, n + 1 => by simp [gslot, gslot_eq r n]
def sel (b : Bool) (p q : Prop) : Prop := match b with | true => p | false => q
/-- A guarded operation: it runs, or it does not. -/
def vcG (all : List Oper) (o : Oper) (s : St) (Ky Kn : St → Prop) : Prop :=
  match o.guard with
  | none => Ky s
  | some (j, want) => match gslot all j with
    | none => False
    | some t => match s with
      | ⟨fr, mem, nx⟩ => match fget fr t with
        | .v (.bool b) => bcs b (sel want (Ky ⟨(t, .v (.bool true)) :: fr, mem, nx⟩) (Kn ⟨(t, .v (.bool true)) :: fr, mem, nx⟩)) (sel want (Kn ⟨(t, .v (.bool false)) :: fr, mem, nx⟩) (Ky ⟨(t, .v (.bool false)) :: fr, mem, nx⟩))
        | .v (.tuple _) => Kn ⟨fr, mem, nx⟩
        | _ => False

theorem vcG_sound (H : Holds Γ.B Γ.N ρ s a w) {ops : Array Oper} {o : Oper} {Ky Kn : St → Prop} (h : vcG ops.toList o s Ky Kn) :
    (Region.wanted o (yielded ops a.tmps) = true ∧ ∃ s', Ky s' ∧ Holds Γ.B Γ.N ρ s' a w) ∨ (Region.wanted o (yielded ops a.tmps) = false ∧ ∃ s', Kn s' ∧ Holds Γ.B Γ.N ρ s' a w) := by
  unfold vcG at h
  split at h
  · rename_i hg
    exact .inl ⟨by simp [Region.wanted, hg], s, h, H⟩
  · rename_i j want hg
    split at h
    · exact h.elim
    · rename_i t hs
      rw [gslot_eq] at hs
      have hs' : (ops[j]?).bind (·.dst) = some t := by simpa using hs
      obtain ⟨fr, mem, nx⟩ := s
      simp only at h
      have hft := H.fr t
      simp only at hft
      split at h
      · rename_i b he
        rw [he] at hft
        have hv := rel_v hft
        have hy : yielded ops a.tmps j = some b := by
          simp only [yielded, hs', Option.bind_some]
          rw [Array.getD_eq_getD_getElem?] at hv
          cases ht : a.tmps[t]? with
          | none => rw [ht] at hv; cases hv
          | some u => rw [ht] at hv; simp at hv; subst hv; rfl
        have set : ∀ b', b = b' → Holds Γ.B Γ.N ρ ⟨(t, .v (.bool b')) :: fr, mem, nx⟩ a w := by
          rintro b' rfl
          refine ⟨H.nx, fun t' => ?_, H.size, H.dfr, H.mem⟩
          rw [fget_cons]
          split
          · rename_i e; subst e; simp only [Rel]; exact hv
          · exact H.fr t'
        cases b with
        | true =>
          cases want with
          | true => exact .inl ⟨by simp [Region.wanted, hg, hy], _, h, set true rfl⟩
          | false => exact .inr ⟨by simp [Region.wanted, hg, hy], _, h, set true rfl⟩
        | false =>
          cases want with
          | true => exact .inr ⟨by simp [Region.wanted, hg, hy], _, h, set false rfl⟩
          | false => exact .inl ⟨by simp [Region.wanted, hg, hy], _, h, set false rfl⟩
      · rename_i x he
        rw [he] at hft
        have hv := rel_v hft
        have hy : yielded ops a.tmps j = none := by
          simp only [yielded, hs', Option.bind_some]
          rw [Array.getD_eq_getD_getElem?] at hv
          cases ht : a.tmps[t]? with
          | none => rfl
          | some u => rw [ht] at hv; simp at hv; subst hv; rfl
        exact .inr ⟨by simp [Region.wanted, hg, hy], _, h, H⟩
      · exact h.elim

def vcOps (Γ : Cx) (all : List Oper) : List Oper → St → (St → Prop) → Prop
  | [], s, K => K s
  | o :: r, s, K => vcG all o s (fun s => vcOp Γ s o fun s => vcOps Γ all r s K) (fun s => put Γ.N s o.dst (.v (.tuple #[])) fun s => vcOps Γ all r s K)
/-- Operations that change no memory, in the order of the text. -/
def vcRds (Γ : Cx) (all : List Oper) : List Oper → St → (St → Prop) → Prop
  | [], s, K => K s
  | o :: r, s, K => vcG all o s (fun s => vcVal Γ.P Γ.tab s o fun x => put Γ.N s o.dst x fun s => vcRds Γ all r s K) (fun s => put Γ.N s o.dst (.v (.tuple #[])) fun s => vcRds Γ all r s K)

theorem vcOps_sound (ht : Tab.ok Γ.P Γ.tab) {ops : Array Oper} (hK : ∀ s ρ a w, K s → Holds Γ.B Γ.N ρ s a w → Q .normal a w) :
    ∀ (l : List Oper) (s : St) (ρ : List Loc) (a : Act) (w : World), vcOps Γ ops.toList l s K → Holds Γ.B Γ.N ρ s a w → wpList Γ.P ops Q l a w
  | [], s, ρ, a, w, h, H => hK s ρ a w h H
  | o :: r, s, ρ, a, w, h, H => by
    simp only [vcOps] at h
    simp only [wpList]
    rcases vcG_sound H h with ⟨hw, s', hk, H'⟩ | ⟨hw, s', hk, H'⟩
    · rw [if_pos hw]
      refine .inl (Oper.wp_mono (fun a' w' hh => ?_) (vcOp_sound ht H' hk))
      obtain ⟨s'', ρ', hk', H''⟩ := hh
      exact vcOps_sound ht hK r s'' ρ' a' w' hk' H''
    · rw [if_neg (by rw [hw]; simp)]
      obtain ⟨s'', hk', H'', _, _⟩ := put_sound H' (v := undef) (by simp only [Rel]; rfl) hk
      exact vcOps_sound ht hK r s'' ρ _ w hk' H''

theorem vcRds_sound (ht : Tab.ok Γ.P Γ.tab) {ops : Array Oper} {R : Act → Prop} {w : World} (hK : ∀ s a, K s → Holds Γ.B Γ.N ρ s a w → R a) :
    ∀ (l : List Oper) (s : St) (a : Act), vcRds Γ ops.toList l s K → Holds Γ.B Γ.N ρ s a w → wpStill Γ.P ops w R l a
  | [], s, a, h, H => hK s a h H
  | o :: r, s, a, h, H => by
    simp only [vcRds] at h
    simp only [wpStill]
    rcases vcG_sound H h with ⟨hw, s', hk, H'⟩ | ⟨hw, s', hk, H'⟩
    · rw [if_pos hw]
      obtain ⟨v, x, hr, hx, hp⟩ := vcVal_sound ht H' hk
      obtain ⟨s'', hk', H'', _, _⟩ := put_sound H' hx hp
      unfold Oper.still
      rw [hr, Oper.stillUpon_value]
      exact vcRds_sound ht hK r s'' _ hk' H''
    · rw [if_neg (by rw [hw]; simp)]
      obtain ⟨s'', hk', H'', _, _⟩ := put_sound H' (v := undef) (by simp only [Rel]; rfl) hk
      exact vcRds_sound ht hK r s'' _ hk' H''

/-- How many operations of a region change no memory, ahead of the first that may. -/
def quietOp : Op → Bool
  | .alloc _ => false
  | .box .. => false
  | .store .. => false
  | .buildSlice .. => false
  | .makeSlice .. => false
  | .mapUpdate .. => false
  | .lookup .. => false
  | .makeMap .. => false
  | .convert .. => false
  | .call c => match c.callee with
    | .builtin .len => true
    | .builtin .min => true
    | .builtin .max => true
    | _ => false
  | _ => true
def quietN : List Oper → Nat
  | [] => 0
  | o :: r => match quietOp o.op with | true => quietN r + 1 | false => 0

/-- A region whose order is open, and in which memory is made or written: 'reg_tail', 'reg_mix'. -/
structure RegG (Γ : Cx) (ops : Array Oper) (s : St) (K : St → Prop) : Prop where
  run : Tab.ok Γ.P Γ.tab → Γ.P.follows .mixedOrders = true → ∀ (Q : Exit → Act → World → Prop) (id : Nat) (ρ : List Loc) (a : Act) (w : World), (∀ s ρ a w, K s → Holds Γ.B Γ.N ρ s a w → Q .normal a w) → (∀ ch a w, ¬ Q (.panic ch) a w) → Holds Γ.B Γ.N ρ s a w → (Code.region id ops true).wp Γ.P Q a w

def vcRegion (Γ : Cx) (ops : Array Oper) (draw : Bool) (s : St) (K : St → Prop) : Prop :=
  match draw with
  | false => vcOps Γ ops.toList ops.toList s K
  | true => match Nat.beq (quietN ops.toList) ops.toList.length with
    | true => Region.lexB .any ops.toList.toArray = true ∧ vcRds Γ ops.toList ops.toList s K
    | false => RegG Γ ops s K

theorem vcRegion_sound (ht : Tab.ok Γ.P Γ.tab) (hf : Γ.P.follows .mixedOrders = true) {ops : Array Oper} {d : Bool} {id : Nat} (hK : ∀ s ρ a w, K s → Holds Γ.B Γ.N ρ s a w → Q .normal a w) (hQ : ∀ ch a w, ¬ Q (.panic ch) a w) (h : vcRegion Γ ops d s K) (H : Holds Γ.B Γ.N ρ s a w) :
    (Code.region id ops d).wp Γ.P Q a w := by
  cases d with
  | false => exact wp_region_list (vcOps_sound ht hK _ s ρ a w h H)
  | true =>
    have H' : Holds Γ.B Γ.N ρ s a { w with drawn := w.drawn + 1 } := H.drew
    obtain ⟨l⟩ := ops
    simp only [vcRegion] at h
    split at h
    · obtain ⟨hB, h⟩ := h
      refine wp_region_still_lit hf hB ?_
      exact vcRds_sound ht (ops := ⟨l⟩) (fun s a hk H => hK s ρ a _ hk H) _ s a h H'
    · exact h.run ht hf Q id ρ a w hK hQ H

/-- What only reads comes first, and one order speaks for all. -/
theorem reg_tail {l : List Oper} (hB : Region.lexTailB .any l.toArray (quietN l) = true) (h : vcRds Γ l (l.take (quietN l)) s fun s => vcOps Γ l (l.drop (quietN l)) s K) : RegG Γ l.toArray s K := by
  refine ⟨fun ht hf Q id ρ a w hK _ H => ?_⟩
  have H' : Holds Γ.B Γ.N ρ s a { w with drawn := w.drawn + 1 } := H.drew
  refine wp_region_still_tail (quietN l) hf hB ?_
  exact vcRds_sound ht (ops := ⟨l⟩) (fun s a hk H => vcOps_sound ht (ops := ⟨l⟩) hK _ s ρ a _ hk H) _ s a h H'
end
end Go.Proofs.YtiihmggoebohkaaDoor.Vc
