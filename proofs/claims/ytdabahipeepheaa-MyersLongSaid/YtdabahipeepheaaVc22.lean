/- Verification conditions by symbolic execution over the model's code: parts Vc13, Vc14, Vc15, Vc16, Vc17, Vc18, Vc19, Vc20, Vc21, Vc22. -/
import Derived.Test.YtdabahipeepheaaVc12
import Derived.StillTail
import Derived.Laws.StructEq
import Derived.Test.YtdabahipeepheaaVcM
namespace Go.Proofs.Ytdabahipeepheaa.Vc
open Go Go.RowKit

section
variable {Γ : Cx} {ρ : List Loc} {s : St} {a : Act} {w : World} {K : St → Prop} {Q : Exit → Act → World → Prop}

theorem e_cut (ht : Tab.ok Γ.P Γ.tab) (H : Holds Γ.B Γ.N ρ s a w) {dst : Option Nat} {ty : TypeId} {pos : String} {after : Array Edge} {guard : Option (Nat × Bool)} {T c : Nat} {x hi : Operand} (hx0 : ev s x = .o c) (h : vcCut Γ s T c (ev s hi) dst K) :
    Oper.wp Γ.P ⟨dst, .slice T x none (some hi) none, ty, pos, after, guard⟩ a w (After Γ K) Q := by
  unfold vcCut at h
  have hh := H.ev hi
  have hx := H.ev x
  rw [hx0] at hx
  obtain ⟨L, hL, hv⟩ := rel_o hx
  have hch := H.mem.ch c
  split at h
  · rename_i kk k he
    rw [he] at hh
    have hk := rel_v hh
    split at h
    · rename_i ti hT
      obtain ⟨desc, hu, hd⟩ := tab_und ht hT
      split at h
      · rename_i e' hd0
        rw [hd0] at hd
        simp only [TD.ok] at hd
        subst hd
        split at h
        · rename_i te he3
          have hsz := tab_size ht he3 w
          split at h
          · rename_i e sz n f hm
            cases hb : Nat.beq sz te.size with
            | false => rw [hb] at h; exact h.elim
            | true =>
              rw [hb] at h
              obtain ⟨⟨h0, h1⟩, hp⟩ := h
              rw [hm] at hch
              obtain ⟨q1, q2, A, cap, hv', hn, hcm, hA, hA2⟩ := own_form hch hL
              obtain ⟨L', vs, p1, p2, p3, p4, p5, p6, p7⟩ := hch
              rw [hL] at p1; cases p1
              have hb2 := run_bounds (P := Γ.P) (w := w) true n cap none (some (a.eval hi)) 0 k (.inr (.inr ⟨rfl, rfl⟩)) (.inl ⟨kk, by rw [hk]⟩) (Int.le_refl _) h0 h1 hn
              have hA0 : A.map (·.add 0) = A := by
                cases A with
                | none => rfl
                | some g => rw [hA2 g rfl]; simp [Addr.add_lit]
              refine wp_value (v := .slice A k.toNat cap) (w' := w) ?_ ?_
              · show (execOp a.eval _).run Γ.P w = _
                simp [execOp, hv.trans hv', Instr.sliceAt, Instr.slice, run_underlying hu, hb2, hsz]
                exact fun _ => hA0
              · obtain ⟨fr, mem, nx⟩ := s
                have hml := p4.1
                have hle : k.toNat * sz ≤ n * sz := Nat.mul_le_mul_right _ (by omega)
                have hown' : w.ownsRow 0 e sz (.slice A k.toNat cap) k.toNat (vs.take (k.toNat * sz)) := by
                  refine ⟨by rw [List.length_take]; omega, ?_⟩
                  rcases p4.2 with ⟨hv3, hn0⟩ | ⟨g, cap', cur, hv3, _, hh2, h6, h7, h8, h9⟩
                  · rw [hv'] at hv3; cases hv3
                    exact .inl ⟨by rw [show k.toNat = 0 by omega], by omega⟩
                  · rw [hv'] at hv3; cases hv3
                    refine .inr ⟨g, cap, cur, rfl, Nat.zero_le _, hh2, by omega, h7, h8, ?_⟩
                    rw [← h9, List.take_take, Nat.min_eq_left hle]
                have hob : (Value.slice A k.toNat cap).ownBlock = L.own.ownBlock := by rw [hv']; cases A <;> rfl
                have ex := Ext.app ρ [(⟨L.blk, 0, sz, .slice A k.toNat cap⟩ : Loc)]
                have hm0 : MSat Γ.B ρ ((c, .non) :: mem) w := H.mem.drop c
                have hch' : ChSat Γ.B (ρ ++ [⟨L.blk, 0, sz, .slice A k.toNat cap⟩]) w ρ.length (.own e sz k.toNat f) := by
                  refine ⟨_, _, last_get _ _, rfl, rfl, hown', fun b hb => p5 b (hob ▸ hb), fun z hz => p6 z (List.mem_of_mem_take hz), fun i hi' => ?_⟩
                  have hle2 : (i + 1) * sz ≤ k.toNat * sz := Nat.mul_le_mul_right _ hi'
                  rw [Nat.add_mul] at hle2
                  have := RelL.mono ex _ _ (p7 i (by omega))
                  rw [List.drop_take, List.take_take, Nat.min_eq_left (by omega)]
                  exact this
                have occ : ∀ b, Occ (ρ ++ [⟨L.blk, 0, sz, .slice A k.toNat cap⟩]) ρ.length (.own e sz k.toNat f) b → Occ ρ c (mget mem c) b := by
                  intro b o
                  obtain ⟨L2, h2, hb⟩ := o
                  rw [last_get] at h2; cases h2
                  have hm' : mget mem c = .own e sz n f := hm
                  rw [hm']
                  exact ⟨L, hL, by rw [← hob]; exact hb⟩
                have hwr : (mget mem c).wr = true := by
                  have hm' : mget mem c = .own e sz n f := hm
                  rw [hm']; rfl
                have hm2 : MSat Γ.B (ρ ++ [⟨L.blk, 0, sz, .slice A k.toNat cap⟩]) ((ρ.length, .own e sz k.toNat f) :: (c, .non) :: mem) w := hm0.add _ _ hch' (fun d b _ o o' => by
                  rw [mget_cons] at o
                  split at o
                  · exact o.elim
                  · rename_i hne
                    exact H.mem.sep c d b hne hwr (occ b o') o) (fun b o => by
                  obtain ⟨L2, h2, hb⟩ := o
                  rw [last_get] at h2; cases h2
                  exact (p5 b (hob ▸ hb)).2)
                have hnx : ρ.length = nx := H.nx
                have H' : Holds Γ.B Γ.N (ρ ++ [⟨L.blk, 0, sz, .slice A k.toNat cap⟩]) ⟨fr, (nx, .own e sz k.toNat f) :: (c, .non) :: mem, nx + 1⟩ a w :=
                  ⟨by simp [hnx], fun t => (H.fr t).mono ex, H.size, H.dfr, by rw [← hnx]; exact hm2⟩
                simp only [putN, fch_eq, fnat_eq] at hp
                obtain ⟨s'', hk', h', _, _⟩ := put_sound H' (x := .o nx) (v := .slice A k.toNat cap) (by simp only [Rel]; exact ⟨_, by rw [← hnx]; exact last_get _ _, rfl, rfl⟩) hp
                exact ⟨s'', _, hk', h'⟩
          · exact h.elim
        · exact h.elim
      · exact h.elim
    · exact h.elim
  · exact h.elim

theorem vcOp_sound (ht : Tab.ok Γ.P Γ.tab) (H : Holds Γ.B Γ.N ρ s a w) {o : Oper} (h : vcOp Γ s o K) : o.wp Γ.P a w (After Γ K) Q := by
  have val : (vcVal Γ.P Γ.tab s o fun x => put Γ.N s o.dst x K) → o.wp Γ.P a w (After Γ K) Q := by
    intro h
    obtain ⟨v, x, hr, hx, hp⟩ := vcVal_sound ht H h
    obtain ⟨s', hk, h', _, _⟩ := put_sound H hx hp
    exact wp_value hr ⟨s', ρ, hk, h'⟩
  obtain ⟨dst, op, ty, pos, after, guard⟩ := o
  cases op with
  | alloc T => exact e_alloc ht H h
  | box T x => exact e_box H h
  | store T x y => exact e_store ht H h
  | buildSlice T n parts => exact e_buildSlice ht H h
  | makeSlice T x y => exact e_makeSlice ht H h
  | call c =>
    obtain ⟨callee, args, tys⟩ := c
    cases callee with
    | value f => exact e_call H h
    | invoke r m => exact h ρ a w Q H
    | builtin b =>
      cases b with
      | append => exact e_append ht H h
      | len => exact val h
      | min => exact val h
      | max => exact val h
      | _ => exact h ρ a w Q H
  | slice T x lo hi mx =>
    simp only [vcOp] at h
    split at h
    · rename_i hx0
      rcases h with h | h
      · exact val h
      · exact e_cut ht H hx0 h
    · exact val h
  | mapUpdate => exact h ρ a w Q H
  | lookup => exact h ρ a w Q H
  | makeMap => exact h ρ a w Q H
  | range => exact h ρ a w Q H
  | next => exact h ρ a w Q H
  | insert => exact h ρ a w Q H
  | convert S T x =>
    simp only [vcOp] at h
    have hx := H.ev x
    split at h
    · rename_i tj ti k0 n hS hT he
      rw [he] at hx
      have hv := rel_v hx
      split at h
      · rename_i k hk
        obtain ⟨desc, hu, hd⟩ := tab_und ht hT
        obtain ⟨desc', hu', hd'⟩ := tab_und ht hS
        rw [hk] at hd
        simp only [TD.ok] at hd
        subst hd
        obtain ⟨e, hq⟩ := rng_wrap h
        obtain ⟨s', hk, h', _, _⟩ := put_sound H (x := .v (.int k n)) (v := .int k n) (by simp only [Rel]) hq
        refine wp_value (v := .int k n) ?_ ⟨s', ρ, hk, h'⟩
        simp only [execOp, hv, convert, Sem.run_bind, run_underlying hu', run_underlying hu, Result.andThen_ok]
        simp [Conv.intToInt, e]
      · exact h ρ a w Q H
    · exact h ρ a w Q H
  | _ => exact val h

def gslot : List Oper → Nat → Option Nat
  | [], _ => none
  | o :: _, 0 => o.dst
  | _ :: r, n + 1 => gslot r n
theorem gslot_eq : ∀ (l : List Oper) (n : Nat), gslot l n = l[n]?.bind (·.dst)
  | [], n => by simp [gslot]
  | x :: r, 0 => by simp [gslot]
  | x :: r, n + 1 => by simp [gslot, gslot_eq r n]
def sel (b : Bool) (p q : Prop) : Prop := match b with | true => p | false => q
/-- A guarded operation: it runs, or it does not. -/
def vcG (all : List Oper) (o : Oper) (s : St) (Ky Kn : St → Prop) : Prop :=
  match o.guard with
  | none => Ky s
  | some (j, want) => match gslot all j with
    | none => False
    | some t => match s with
      | ⟨fr, mem, nx⟩ => match fget fr t with
        | .v (.bool b) => bcs b (sel want (Ky ⟨(t, .v (.bool true)) :: fr, mem, nx⟩) (Kn ⟨(t, .v (.bool true)) :: fr, mem, nx⟩)) (sel want (Kn ⟨(t, .v (.bool false)) :: fr, mem, nx⟩) (Ky ⟨(t, .v (.bool false)) :: fr, mem, nx⟩))
        | .v (.tuple _) => Kn ⟨fr, mem, nx⟩
        | _ => False

theorem vcG_sound (H : Holds Γ.B Γ.N ρ s a w) {ops : Array Oper} {o : Oper} {Ky Kn : St → Prop} (h : vcG ops.toList o s Ky Kn) :
    (Region.wanted o (yielded ops a.tmps) = true ∧ ∃ s', Ky s' ∧ Holds Γ.B Γ.N ρ s' a w) ∨ (Region.wanted o (yielded ops a.tmps) = false ∧ ∃ s', Kn s' ∧ Holds Γ.B Γ.N ρ s' a w) := by
  unfold vcG at h
  split at h
  · rename_i hg
    exact .inl ⟨by simp [Region.wanted, hg], s, h, H⟩
  · rename_i j want hg
    split at h
    · exact h.elim
    · rename_i t hs
      rw [gslot_eq] at hs
      have hs' : (ops[j]?).bind (·.dst) = some t := by simpa using hs
      obtain ⟨fr, mem, nx⟩ := s
      simp only at h
      have hft := H.fr t
      simp only at hft
      split at h
      · rename_i b he
        rw [he] at hft
        have hv := rel_v hft
        have hy : yielded ops a.tmps j = some b := by
          simp only [yielded, hs', Option.bind_some]
          rw [Array.getD_eq_getD_getElem?] at hv
          cases ht : a.tmps[t]? with
          | none => rw [ht] at hv; cases hv
          | some u => rw [ht] at hv; simp at hv; subst hv; rfl
        have set : ∀ b', b = b' → Holds Γ.B Γ.N ρ ⟨(t, .v (.bool b')) :: fr, mem, nx⟩ a w := by
          rintro b' rfl
          refine ⟨H.nx, fun t' => ?_, H.size, H.dfr, H.mem⟩
          rw [fget_cons]
          split
          · rename_i e; subst e; simp only [Rel]; exact hv
          · exact H.fr t'
        cases b with
        | true =>
          cases want with
          | true => exact .inl ⟨by simp [Region.wanted, hg, hy], _, h, set true rfl⟩
          | false => exact .inr ⟨by simp [Region.wanted, hg, hy], _, h, set true rfl⟩
        | false =>
          cases want with
          | true => exact .inr ⟨by simp [Region.wanted, hg, hy], _, h, set false rfl⟩
          | false => exact .inl ⟨by simp [Region.wanted, hg, hy], _, h, set false rfl⟩
      · rename_i x he
        rw [he] at hft
        have hv := rel_v hft
        have hy : yielded ops a.tmps j = none := by
          simp only [yielded, hs', Option.bind_some]
          rw [Array.getD_eq_getD_getElem?] at hv
          cases ht : a.tmps[t]? with
          | none => rfl
          | some u => rw [ht] at hv; simp at hv; subst hv; rfl
        exact .inr ⟨by simp [Region.wanted, hg, hy], _, h, H⟩
      · exact h.elim

def vcOps (Γ : Cx) (all : List Oper) : List Oper → St → (St → Prop) → Prop
  | [], s, K => K s
  | o :: r, s, K => vcG all o s (fun s => vcOp Γ s o fun s => vcOps Γ all r s K) (fun s => put Γ.N s o.dst (.v (.tuple #[])) fun s => vcOps Γ all r s K)
/-- Operations that change no memory, in the order of the text. -/
def vcRds (Γ : Cx) (all : List Oper) : List Oper → St → (St → Prop) → Prop
  | [], s, K => K s
  | o :: r, s, K => vcG all o s (fun s => vcVal Γ.P Γ.tab s o fun x => put Γ.N s o.dst x fun s => vcRds Γ all r s K) (fun s => put Γ.N s o.dst (.v (.tuple #[])) fun s => vcRds Γ all r s K)

theorem vcOps_sound (ht : Tab.ok Γ.P Γ.tab) {ops : Array Oper} (hK : ∀ s ρ a w, K s → Holds Γ.B Γ.N ρ s a w → Q .normal a w) :
    ∀ (l : List Oper) (s : St) (ρ : List Loc) (a : Act) (w : World), vcOps Γ ops.toList l s K → Holds Γ.B Γ.N ρ s a w → wpList Γ.P ops Q l a w
  | [], s, ρ, a, w, h, H => hK s ρ a w h H
  | o :: r, s, ρ, a, w, h, H => by
    simp only [vcOps] at h
    simp only [wpList]
    rcases vcG_sound H h with ⟨hw, s', hk, H'⟩ | ⟨hw, s', hk, H'⟩
    · rw [if_pos hw]
      refine .inl (Oper.wp_mono (fun a' w' hh => ?_) (vcOp_sound ht H' hk))
      obtain ⟨s'', ρ', hk', H''⟩ := hh
      exact vcOps_sound ht hK r s'' ρ' a' w' hk' H''
    · rw [if_neg (by rw [hw]; simp)]
      obtain ⟨s'', hk', H'', _, _⟩ := put_sound H' (v := undef) (by simp only [Rel]; rfl) hk
      exact vcOps_sound ht hK r s'' ρ _ w hk' H''

theorem vcRds_sound (ht : Tab.ok Γ.P Γ.tab) {ops : Array Oper} {R : Act → Prop} {w : World} (hK : ∀ s a, K s → Holds Γ.B Γ.N ρ s a w → R a) :
    ∀ (l : List Oper) (s : St) (a : Act), vcRds Γ ops.toList l s K → Holds Γ.B Γ.N ρ s a w → wpStill Γ.P ops w R l a
  | [], s, a, h, H => hK s a h H
  | o :: r, s, a, h, H => by
    simp only [vcRds] at h
    simp only [wpStill]
    rcases vcG_sound H h with ⟨hw, s', hk, H'⟩ | ⟨hw, s', hk, H'⟩
    · rw [if_pos hw]
      obtain ⟨v, x, hr, hx, hp⟩ := vcVal_sound ht H' hk
      obtain ⟨s'', hk', H'', _, _⟩ := put_sound H' hx hp
      unfold Oper.still
      rw [hr, Oper.stillUpon_value]
      exact vcRds_sound ht hK r s'' _ hk' H''
    · rw [if_neg (by rw [hw]; simp)]
      obtain ⟨s'', hk', H'', _, _⟩ := put_sound H' (v := undef) (by simp only [Rel]; rfl) hk
      exact vcRds_sound ht hK r s'' _ hk' H''

/-- How many operations of a region change no memory, ahead of the first that may. -/
def quietOp : Op → Bool
  | .alloc _ => false
  | .box .. => false
  | .store .. => false
  | .buildSlice .. => false
  | .makeSlice .. => false
  | .mapUpdate .. => false
  | .lookup .. => false
  | .makeMap .. => false
  | .convert .. => false
  | .call c => match c.callee with
    | .builtin .len => true
    | .builtin .min => true
    | .builtin .max => true
    | _ => false
  | _ => true
def quietN : List Oper → Nat
  | [] => 0
  | o :: r => match quietOp o.op with | true => quietN r + 1 | false => 0

/-- A region whose order is open, and in which memory is made or written: 'reg_tail', 'reg_mix'. -/
structure RegG (Γ : Cx) (ops : Array Oper) (s : St) (K : St → Prop) : Prop where
  run : Tab.ok Γ.P Γ.tab → Γ.P.follows .mixedOrders = true → ∀ (Q : Exit → Act → World → Prop) (id : Nat) (ρ : List Loc) (a : Act) (w : World), (∀ s ρ a w, K s → Holds Γ.B Γ.N ρ s a w → Q .normal a w) → (∀ ch a w, ¬ Q (.panic ch) a w) → Holds Γ.B Γ.N ρ s a w → (Code.region id ops true).wp Γ.P Q a w

def vcRegion (Γ : Cx) (ops : Array Oper) (draw : Bool) (s : St) (K : St → Prop) : Prop :=
  match draw with
  | false => vcOps Γ ops.toList ops.toList s K
  | true => match Nat.beq (quietN ops.toList) ops.toList.length with
    | true => Region.lexB .any ops.toList.toArray = true ∧ vcRds Γ ops.toList ops.toList s K
    | false => RegG Γ ops s K

theorem vcRegion_sound (ht : Tab.ok Γ.P Γ.tab) (hf : Γ.P.follows .mixedOrders = true) {ops : Array Oper} {d : Bool} {id : Nat} (hK : ∀ s ρ a w, K s → Holds Γ.B Γ.N ρ s a w → Q .normal a w) (hQ : ∀ ch a w, ¬ Q (.panic ch) a w) (h : vcRegion Γ ops d s K) (H : Holds Γ.B Γ.N ρ s a w) :
    (Code.region id ops d).wp Γ.P Q a w := by
  cases d with
  | false => exact wp_region_list (vcOps_sound ht hK _ s ρ a w h H)
  | true =>
    have H' : Holds Γ.B Γ.N ρ s a { w with drawn := w.drawn + 1 } := H.drew
    obtain ⟨l⟩ := ops
    simp only [vcRegion] at h
    split at h
    · obtain ⟨hB, h⟩ := h
      refine wp_region_still_lit hf hB ?_
      exact vcRds_sound ht (ops := ⟨l⟩) (fun s a hk H => hK s ρ a _ hk H) _ s a h H'
    · exact h.run ht hf Q id ρ a w hK hQ H

/-- What only reads comes first, and one order speaks for all. -/
theorem reg_tail {l : List Oper} (hB : Region.lexTailB .any l.toArray (quietN l) = true) (h : vcRds Γ l (l.take (quietN l)) s fun s => vcOps Γ l (l.drop (quietN l)) s K) : RegG Γ l.toArray s K := by
  refine ⟨fun ht hf Q id ρ a w hK _ H => ?_⟩
  have H' : Holds Γ.B Γ.N ρ s a { w with drawn := w.drawn + 1 } := H.drew
  refine wp_region_still_tail (quietN l) hf hB ?_
  exact vcRds_sound ht (ops := ⟨l⟩) (fun s a hk H => vcOps_sound ht (ops := ⟨l⟩) hK _ s ρ a _ hk H) _ s a h H'
end
end Go.Proofs.Ytdabahipeepheaa.Vc

namespace Go.Proofs.Ytdabahipeepheaa.Vc
open Go Go.RowKit

structure Cx.Ok (Γ : Cx) : Prop where
  tab : Tab.ok Γ.P Γ.tab
  mix : Γ.P.follows .mixedOrders = true
  len : Γ.B.r0.length = Γ.n0

/-- Where a way through code ends, as assertions on states. -/
def Post (Γ : Cx) (K : St → Prop) (E : Nat → St → Prop) (R : St → Prop) : Exit → Act → World → Prop
  | .normal, a, w => ∃ s ρ, K s ∧ Holds Γ.B Γ.N ρ s a w
  | .exit i, a, w => ∃ s ρ, E i s ∧ Holds Γ.B Γ.N ρ s a w
  | .ret, a, w => ∃ s ρ, R s ∧ Holds Γ.B Γ.N ρ s a w
  | _, _, _ => False

/-- A loop: what is asked of its invariant stands in 'loop_rule'. -/
structure LoopP (Γ : Cx) (c : Code) (s : St) (E : Nat → St → Prop) (R : St → Prop) : Prop where
  run : Γ.Ok → ∀ ρ a w, Holds Γ.B Γ.N ρ s a w → (Code.loop c).wp Γ.P (Post Γ (fun _ => False) E R) a w

def vcC (s : St) (c : Operand) (p q : St → Prop) : Prop :=
  match c with
  | .tmp t => match s with
    | ⟨fr, mem, nx⟩ => match fget fr t with
      | .v (.bool b) => bcs b (p ⟨(t, .v (.bool true)) :: fr, mem, nx⟩) (q ⟨(t, .v (.bool false)) :: fr, mem, nx⟩)
      | _ => False
  | .const (.bool b) => bcs b (p s) (q s)
  | _ => False

def vcCode (Γ : Cx) : Code → St → (St → Prop) → (Nat → St → Prop) → (St → Prop) → Prop
  | .skip, s, K, _, _ => K s
  | .region _ ops d, s, K, _, _ => vcRegion Γ ops d s K
  | .seq a b, s, K, E, R => vcCode Γ a s (fun s => vcCode Γ b s K E R) E R
  | .cond c a b, s, K, E, R => vcC s c (fun s => vcCode Γ a s K E R) (fun s => vcCode Γ b s K E R)
  | .block id c, s, K, E, R => vcCode Γ c s K (fun i s => bif Nat.beq i id then K s else E i s) R
  | .loop c, s, _, E, R => LoopP Γ c s E R
  | .exit id, s, _, E, _ => E id s
  | .label _, s, K, _, _ => K s
  | .ret, s, _, _, R => R s
  | _, _, _, _, _ => False

section
variable {Γ : Cx} {ρ : List Loc} {s : St} {a : Act} {w : World}

theorem vcC_sound (H : Holds Γ.B Γ.N ρ s a w) {c : Operand} {p q : St → Prop} (h : vcC s c p q) :
    (a.eval c = .bool true ∧ ∃ s', p s' ∧ Holds Γ.B Γ.N ρ s' a w) ∨ (a.eval c = .bool false ∧ ∃ s', q s' ∧ Holds Γ.B Γ.N ρ s' a w) := by
  unfold vcC at h
  split at h
  · rename_i t
    obtain ⟨fr, mem, nx⟩ := s
    simp only at h
    have hft := H.fr t
    simp only at hft
    split at h
    · rename_i b he
      rw [he] at hft
      have hv := rel_v hft
      have set : ∀ b', b = b' → Holds Γ.B Γ.N ρ ⟨(t, .v (.bool b')) :: fr, mem, nx⟩ a w := by
        rintro b' rfl
        refine ⟨H.nx, fun t' => ?_, H.size, H.dfr, H.mem⟩
        rw [fget_cons]
        split
        · rename_i e; subst e; simp only [Rel]; exact hv
        · exact H.fr t'
      cases b with
      | true => exact .inl ⟨hv, _, h, set true rfl⟩
      | false => exact .inr ⟨hv, _, h, set false rfl⟩
    · exact h.elim
  · rename_i b
    cases b with
    | true => exact .inl ⟨rfl, _, h, H⟩
    | false => exact .inr ⟨rfl, _, h, H⟩
  · exact h.elim

/-- CODE. -/
theorem vcCode_sound (ok : Γ.Ok) : ∀ (c : Code) (s : St) (K : St → Prop) (E : Nat → St → Prop) (R : St → Prop) (ρ : List Loc) (a : Act) (w : World), vcCode Γ c s K E R → Holds Γ.B Γ.N ρ s a w → c.wp Γ.P (Post Γ K E R) a w
  | .skip, s, K, E, R, ρ, a, w, h, H => wp_skip ⟨s, ρ, h, H⟩
  | .region id ops d, s, K, E, R, ρ, a, w, h, H => vcRegion_sound ok.tab ok.mix (fun s ρ _ _ hk H => ⟨s, ρ, hk, H⟩) (fun _ _ _ h => h) h H
  | .seq x y, s, K, E, R, ρ, a, w, h, H => by
    refine wp_seq (wp_mono (vcCode_sound ok x s _ E R ρ a w h H) ?_)
    intro e a' w' hq
    cases e with
    | normal =>
      obtain ⟨s', ρ', hk, H'⟩ := hq
      exact vcCode_sound ok y s' K E R ρ' a' w' hk H'
    | _ => exact hq
  | .cond c x y, s, K, E, R, ρ, a, w, h, H => by
    simp only [vcCode] at h
    rcases vcC_sound H h with ⟨hc, s', hk, H'⟩ | ⟨hc, s', hk, H'⟩
    · exact wp_cond_true hc (vcCode_sound ok x s' K E R ρ a w hk H')
    · exact wp_cond_false hc (vcCode_sound ok y s' K E R ρ a w hk H')
  | .block id c, s, K, E, R, ρ, a, w, h, H => by
    refine wp_block (wp_mono (vcCode_sound ok c s K _ R ρ a w h H) ?_)
    intro e a' w' hq
    cases e with
    | exit i =>
      obtain ⟨s', ρ', hk, H'⟩ := hq
      simp only [Exit.inBlock]
      split
      · rename_i e; subst e
        simp only [Nat.beq_refl, cond_true] at hk
        exact ⟨s', ρ', hk, H'⟩
      · rename_i hne
        have : Nat.beq i id = false := by
          cases e : Nat.beq i id with
          | false => rfl
          | true => exact absurd (Nat.eq_of_beq_eq_true e) hne
        rw [this] at hk
        exact ⟨s', ρ', hk, H'⟩
    | _ => exact hq
  | .loop c, s, K, E, R, ρ, a, w, h, H => by
    have h' : LoopP Γ c s E R := h
    refine wp_mono (h'.run ok ρ a w H) ?_
    intro e a' w' hq
    cases e with
    | normal => obtain ⟨_, _, hf, _⟩ := hq; exact hf.elim
    | _ => exact hq
  | .exit id, s, K, E, R, ρ, a, w, h, H => wp_exit ⟨s, ρ, h, H⟩
  | .label _, s, K, E, R, ρ, a, w, h, H => wp_label ⟨s, ρ, h, H⟩
  | .ret, s, K, E, R, ρ, a, w, h, H => wp_ret ⟨s, ρ, h, H⟩
  | .rangeFunc _ _ _ _, _, _, _, _, _, _, _, h, _ => h.elim
  | .scope _, _, _, _, _, _, _, _, h, _ => h.elim
  | .goto _, _, _, _, _, _, _, _, h, _ => h.elim
  | .refuse _, _, _, _, _, _, _, _, h, _ => h.elim
end
end Go.Proofs.Ytdabahipeepheaa.Vc

namespace Go.Proofs.Ytdabahipeepheaa.Vc
open Go Go.RowKit

/-- Where a new chunk lies among the old ones: in one of them, from an element on; or nowhere (its size); or it is the nil slice's. -/
inductive Kp where
  | at (c d : Nat)
  | nul (sz : Nat)
  | nil (sz : Nat)
def kAt : List Kp → Nat → Option Kp
  | [], _ => none
  | x :: _, 0 => some x
  | _ :: r, n + 1 => kAt r n
theorem kAt_eq : ∀ (l : List Kp) (n : Nat), kAt l n = l[n]?
  | [], n => by simp [kAt]
  | x :: r, 0 => by simp [kAt]
  | x :: r, n + 1 => by simp [kAt, kAt_eq r n]

def veq : Value → Value → Prop
  | .int k a, .int k' b => bif kB k k' then a = b else False
  | .bool a, .bool b => a = b
  | .string a, .string b => a = b
  | .iface t x, .iface t' y => t = t' ∧ x = y
  | x, y => x = y
theorem veq_eq {x y : Value} (h : veq x y) : x = y := by
  cases x <;> cases y <;> first
    | exact h
    | (rename_i k a k' b
       simp only [veq] at h
       cases hb : kB k k' with
       | true => rw [hb] at h; have := kB_eq hb; subst this; exact congrArg _ h
       | false => rw [hb] at h; exact h.elim)
    | (simp only [veq] at h; rw [h])
    | (simp only [veq] at h; rw [h.1, h.2])

/-- Is the first value (over new chunks) the second one (over old chunks)? -/
def sim0 (k : List Kp) (m : Mem) : SV → SV → Prop
  | .u, _ => True
  | .v x, .v y => veq x y
  | .p c i o, .p c' i' o' => match kAt k c with
    | some (.at d e) => bif Nat.beq d c' && Nat.beq o o' then i + e = i' else False
    | _ => False
  | .s c i n, .s c' i' n' => match kAt k c with
    | some (.at d e) => bif Nat.beq d c' then i + e = i' ∧ n = n' else False
    | _ => False
  | .s c i n, .o c' => match kAt k c with
    | some (.at d e) => bif Nat.beq d c' then (match mget m c' with | .own _ _ n' _ => i + e = 0 ∧ n = n' | _ => False) else False
    | _ => False
  | .s c _ n, .v (.slice none 0 0) => match kAt k c with
    | some _ => n = 0
    | none => False
  | .o c, .o c' => match kAt k c with
    | some (.at d e) => bif Nat.beq d c' && Nat.beq e 0 then True else False
    | _ => False
  | .o c, .v (.slice none 0 0) => match kAt k c with
    | some (.nil _) => True
    | _ => False
  | _, _ => False
def simL0 (k : List Kp) (m : Mem) : List SV → List SV → Prop
  | [], [] => True
  | x :: r, y :: q => sim0 k m x y ∧ simL0 k m r q
  | _, _ => False
def sim1 (k : List Kp) (m : Mem) : SV → SV → Prop
  | .f g l, y => match y with
    | .f g' l' => bif Nat.beq g g' then simL0 k m l l' else False
    | _ => False
  | x, y => sim0 k m x y
def simL1 (k : List Kp) (m : Mem) : List SV → List SV → Prop
  | [], [] => True
  | x :: r, y :: q => sim1 k m x y ∧ simL1 k m r q
  | _, _ => False
def sim2 (k : List Kp) (m : Mem) : SV → SV → Prop
  | .a l, y => match y with
    | .a l' => simL1 k m l l'
    | _ => False
  | x, y => sim1 k m x y
def simL2 (k : List Kp) (m : Mem) : List SV → List SV → Prop
  | [], [] => True
  | x :: r, y :: q => sim2 k m x y ∧ simL2 k m r q
  | _, _ => False
def sim3 (k : List Kp) (m : Mem) : SV → SV → Prop
  | .t l, y => match y with
    | .t l' => simL2 k m l l'
    | _ => False
  | x, y => sim2 k m x y

/-- A chunk, as an old one holds it. -/
def simC (k : List Kp) (m : Mem) (x : Ch) (y : Kp) : Prop :=
  match x with
  | .non => True
  | .ro sz n f => match y with
    | .nul z => bif Nat.beq z sz then n = 0 else False
    | .nil z => bif Nat.beq z sz then n = 0 else False
    | .at d e => match mget m d with
      | .ro sz' n' f' => bif Nat.beq sz sz' then n + e ≤ n' ∧ ∀ i, i < n → simL1 k m (f i) (f' (i + e)) else False
      | .own _ sz' n' f' => bif Nat.beq sz sz' then n + e ≤ n' ∧ ∀ i, i < n → simL1 k m (f i) (f' (i + e)) else False
      | _ => False
  | .own t sz n f => match y with
    | .nul _ => False
    | .nil z => bif Nat.beq z sz then n = 0 else False
    | .at d e => match mget m d with
      | .own t' sz' n' f' => bif Nat.beq t t' && Nat.beq sz sz' && Nat.beq e 0 then n = n' ∧ ∀ i, i < n → simL1 k m (f i) (f' i) else False
      | _ => False
  | .box t l => match y with
    | .nul _ => False
    | .nil _ => False
    | .at d e => match mget m d with
      | .box t' l' => bif Nat.beq t t' && Nat.beq e 0 then simL1 k m l l' else False
      | _ => False
def simM (k : List Kp) (m : Mem) : Mem → Prop
  | [] => True
  | (c, ch) :: r => (match kAt k c with | some y => simC k m ch y | none => False) ∧ simM k m r
def simF (k : List Kp) (m : Mem) (fr : Fr) : Fr → Prop
  | [] => True
  | (t, x) :: r => sim3 k m x (fget fr t) ∧ simF k m fr r

def Loc.shift (L : Loc) (e : Nat) : Loc := ⟨L.blk, L.off + e * L.sz, L.sz, match e with | 0 => L.own | _ => .nilFunc⟩
theorem Loc.shift_zero (L : Loc) : L.shift 0 = L := by cases L; simp [Loc.shift]
def Kp.loc (ρ : List Loc) : Kp → Loc
  | .at c d => ((ρ[c]?).getD ⟨0, 0, 0, .nilFunc⟩).shift d
  | .nul sz => ⟨0, 0, sz, .nilFunc⟩
  | .nil sz => ⟨0, 0, sz, .slice none 0 0⟩
/-- The new places. -/
def kLoc (ρ : List Loc) (k : List Kp) : List Loc := k.map (Kp.loc ρ)
theorem kLoc_get {ρ : List Loc} {k : List Kp} {c : Nat} {y : Kp} (h : kAt k c = some y) : (kLoc ρ k)[c]? = some (y.loc ρ) := by
  rw [kAt_eq] at h
  simp [kLoc, h]
theorem kLoc_at {ρ : List Loc} {k : List Kp} {c d e : Nat} {L : Loc} (h : kAt k c = some (.at d e)) (hL : ρ[d]? = some L) : (kLoc ρ k)[c]? = some (L.shift e) := by
  rw [kLoc_get h]; simp [Kp.loc, hL]

section
variable {B : Bs} {ρ : List Loc} {m : Mem} {w : World} {k : List Kp}

theorem sim0_sound (hm : ∀ c, ChSat B ρ w c (mget m c)) : ∀ {x y : SV} {v : Value}, sim0 k m x y → Rel ρ y v → Rel (kLoc ρ k) x v := by
  intro x y v h hr
  unfold sim0 at h
  split at h
  · simp only [Rel]
  · have := veq_eq h
    subst this
    simpa only [Rel] using hr
  · split at h
    · rename_i d e hk
      cases hb : (Nat.beq d _ && Nat.beq _ _) with
      | false => rw [hb] at h; exact h.elim
      | true =>
        rw [hb] at h
        simp only [Bool.and_eq_true] at hb
        have h1 := Nat.eq_of_beq_eq_true hb.1
        have h2 := Nat.eq_of_beq_eq_true hb.2
        subst h1 h2
        simp only [cond_true] at h
        subst h
        obtain ⟨L, hL, rfl⟩ := rel_p hr
        simp only [Rel]
        refine ⟨_, kLoc_at hk hL, ?_⟩
        simp only [Loc.shift, Nat.add_mul]
        congr 3
        omega
    · exact h.elim
  · split at h
    · rename_i d e hk
      cases hb : Nat.beq d _ with
      | false => rw [hb] at h; exact h.elim
      | true =>
        rw [hb] at h
        have h1 := Nat.eq_of_beq_eq_true hb
        subst h1
        obtain ⟨rfl, rfl⟩ := h
        obtain ⟨L, A, q, hL, hv, hn, hq, hA⟩ := rel_s hr
        simp only [Rel]
        refine ⟨_, A, q, kLoc_at hk hL, hv, hn, hq, fun hp => ?_⟩
        rw [hA hp]
        simp only [Loc.shift, Nat.add_mul]
        congr 2
        omega
    · exact h.elim
  · split at h
    · rename_i d e hk
      cases hb : Nat.beq d _ with
      | false => rw [hb] at h; exact h.elim
      | true =>
        rw [hb] at h
        have h1 := Nat.eq_of_beq_eq_true hb
        subst h1
        simp only [cond_true] at h
        have hc := hm d
        split at h
        · rename_i t sz n' f hmd
          rw [hmd] at hc
          obtain ⟨h0, rfl⟩ := h
          obtain ⟨L, hL, hv⟩ := rel_o hr
          obtain ⟨h2, h3, A, cap, hv', hn, hcm, hA, _⟩ := own_form hc hL
          simp only [Rel]
          refine ⟨_, A, cap, kLoc_at hk hL, hv.trans hv', hn, hcm, fun hp => ?_⟩
          have e0 : e = 0 := by omega
          subst e0
          rw [Loc.shift_zero, hA hp, h3]
          congr 2
          have : (_ : Nat) = 0 := Nat.eq_zero_of_add_eq_zero_right h0
          rw [this]; simp
        · exact h.elim
    · exact h.elim
  · split at h
    · rename_i y' hk
      have hv := rel_v hr
      subst h
      simp only [Rel]
      exact ⟨_, none, 0, kLoc_get hk, hv, Nat.le_refl _, Nat.zero_le _, fun hp => absurd hp (by omega)⟩
    · exact h.elim
  · split at h
    · rename_i d e hk
      cases hb : (Nat.beq d _ && Nat.beq e 0) with
      | false => rw [hb] at h; exact h.elim
      | true =>
        simp only [Bool.and_eq_true] at hb
        have h1 := Nat.eq_of_beq_eq_true hb.1
        have h2 := Nat.eq_of_beq_eq_true hb.2
        subst h1 h2
        simp only [Rel] at hr ⊢
        obtain ⟨L, hL, h3, h4⟩ := hr
        exact ⟨L, by rw [kLoc_at hk hL, Loc.shift_zero], h3, h4⟩
    · exact h.elim
  · split at h
    · rename_i z hk
      have hv := rel_v hr
      subst hv
      simp only [Rel]
      exact ⟨_, kLoc_get hk, rfl, rfl⟩
    · exact h.elim
  · exact h.elim
theorem simL0_sound (hm : ∀ c, ChSat B ρ w c (mget m c)) : ∀ {x y : List SV} {v : List Value}, simL0 k m x y → RelL ρ y v → RelL (kLoc ρ k) x v
  | [], [], v, _, hr => by simpa only [RelL] using hr
  | x :: r, y :: q, v, h, hr => by
    obtain ⟨h1, h2⟩ := h
    simp only [RelL] at hr ⊢
    obtain ⟨u, ur, e, h3, h4⟩ := hr
    exact ⟨u, ur, e, sim0_sound hm h1 h3, simL0_sound hm h2 h4⟩
  | [], _ :: _, _, h, _ => h.elim
  | _ :: _, [], _, h, _ => h.elim
theorem sim1_sound (hm : ∀ c, ChSat B ρ w c (mget m c)) {x y : SV} {v : Value} (h : sim1 k m x y) (hr : Rel ρ y v) : Rel (kLoc ρ k) x v := by
  unfold sim1 at h
  split at h
  · split at h
    · rename_i g l _ g' l'
      cases hb : Nat.beq g g' with
      | false => rw [hb] at h; exact h.elim
      | true =>
        rw [hb] at h
        have h1 := Nat.eq_of_beq_eq_true hb
        subst h1
        obtain ⟨vs, hv, hl⟩ := rel_f hr
        simp only [Rel]
        exact ⟨vs, hv, simL0_sound hm h hl⟩
    · exact h.elim
  · exact sim0_sound hm h hr
theorem simL1_sound (hm : ∀ c, ChSat B ρ w c (mget m c)) : ∀ {x y : List SV} {v : List Value}, simL1 k m x y → RelL ρ y v → RelL (kLoc ρ k) x v
  | [], [], v, _, hr => by simpa only [RelL] using hr
  | x :: r, y :: q, v, h, hr => by
    obtain ⟨h1, h2⟩ := h
    simp only [RelL] at hr ⊢
    obtain ⟨u, ur, e, h3, h4⟩ := hr
    exact ⟨u, ur, e, sim1_sound hm h1 h3, simL1_sound hm h2 h4⟩
  | [], _ :: _, _, h, _ => h.elim
  | _ :: _, [], _, h, _ => h.elim
theorem sim2_sound (hm : ∀ c, ChSat B ρ w c (mget m c)) {x y : SV} {v : Value} (h : sim2 k m x y) (hr : Rel ρ y v) : Rel (kLoc ρ k) x v := by
  unfold sim2 at h
  split at h
  · split at h
    · obtain ⟨vs, hv, hl, h1⟩ := rel_a hr
      simp only [Rel]
      exact ⟨vs, hv, simL1_sound hm h hl, h1⟩
    · exact h.elim
  · exact sim1_sound hm h hr
theorem simL2_sound (hm : ∀ c, ChSat B ρ w c (mget m c)) : ∀ {x y : List SV} {v : List Value}, simL2 k m x y → RelL ρ y v → RelL (kLoc ρ k) x v
  | [], [], v, _, hr => by simpa only [RelL] using hr
  | x :: r, y :: q, v, h, hr => by
    obtain ⟨h1, h2⟩ := h
    simp only [RelL] at hr ⊢
    obtain ⟨u, ur, e, h3, h4⟩ := hr
    exact ⟨u, ur, e, sim2_sound hm h1 h3, simL2_sound hm h2 h4⟩
  | [], _ :: _, _, h, _ => h.elim
  | _ :: _, [], _, h, _ => h.elim
theorem sim3_sound (hm : ∀ c, ChSat B ρ w c (mget m c)) {x y : SV} {v : Value} (h : sim3 k m x y) (hr : Rel ρ y v) : Rel (kLoc ρ k) x v := by
  unfold sim3 at h
  split at h
  · split at h
    · obtain ⟨vs, hv, hl⟩ := rel_t hr
      simp only [Rel]
      exact ⟨vs, hv, simL2_sound hm h hl⟩
    · exact h.elim
  · exact sim2_sound hm h hr
theorem simF_sound (hm : ∀ c, ChSat B ρ w c (mget m c)) {fr : Fr} {a : Act} (hf : ∀ t, Rel ρ (fget fr t) (a.tmps.getD t undef)) : ∀ (fr' : Fr), simF k m fr fr' → ∀ t, Rel (kLoc ρ k) (fget fr' t) (a.tmps.getD t undef)
  | [], _, t => by simp only [fget, Rel]
  | (t', x) :: r, h, t => by
    obtain ⟨h1, h2⟩ := h
    rw [fget_cons]
    split
    · rename_i e; subst e; exact sim3_sound hm h1 (hf _)
    · exact simF_sound hm hf r h2 t

/-- The cells of an element of a row of the call's own. -/
theorem own_row {L : Loc} {c e z n : Nat} {f : Nat → List SV} (hch : ChSat B ρ w c (.own e z n f)) (hL : ρ[c]? = some L) : L.sz = z ∧ (0 < n → L.blk < w.heap.size) ∧
    ∀ i, i < n → ∃ vs, RelL ρ (f i) vs ∧ vs.length = z ∧ (∀ y ∈ vs, y.oneCell' = true) ∧ ∀ q u, vs[q]? = some u → w.cell? ⟨L.blk, L.off + i * z + q, none⟩ = some u := by
  obtain ⟨L', vs, h1, h2, h3, h4, h5, h6, h7⟩ := hch
  rw [hL] at h1; cases h1
  refine ⟨h2, fun hn => ?_, fun i hi => ⟨(vs.drop (i * z)).take z, h7 i hi, ?_, fun x hx => h6 x (List.mem_of_mem_drop (List.mem_of_mem_take hx)), fun j u hu => ?_⟩⟩
  · rcases h4.2 with ⟨_, hn'⟩ | ⟨g, cap, cur, hv, _⟩
    · omega
    · have hg : L.own.ownBlock = some g := by rw [hv]; rfl
      rw [(h5 g hg).1]; exact (h4.lt g hg).2
  · have hle : (i + 1) * z ≤ n * z := Nat.mul_le_mul_right _ hi
    have := h4.1
    rw [Nat.add_mul] at hle
    simp; omega
  · have hj : j < z := by
      rcases Nat.lt_or_ge j z with hlt | hge
      · exact hlt
      · rw [List.getElem?_take, if_neg (by omega)] at hu; cases hu
    rw [List.getElem?_take_of_lt hj, List.getElem?_drop] at hu
    rcases h4.2 with ⟨_, hn⟩ | ⟨g, cap, cur, hv, _⟩
    · omega
    · have hg : L.own.ownBlock = some g := by rw [hv]; rfl
      have hc := h4.cells (g := g) hg (i * z + j) u hu
      rw [Addr.add_lit] at hc
      rw [h3, (h5 g hg).1]
      simpa using hc

/-- What a chunk of a new list of places lies in, its old one lies in. -/
def OldOcc (ρ : List Loc) (m : Mem) (y : Kp) (b : Nat) : Prop := match y with
  | .at d _ => Occ ρ d (mget m d) b
  | .nul _ => False
  | .nil _ => False
theorem simC_sound (hm : ∀ c, ChSat B ρ w c (mget m c)) {c : Nat} {x : Ch} {y : Kp} (hk : kAt k c = some y) (h : simC k m x y) :
    ChSat B (kLoc ρ k) w c x ∧ (∀ b, Occ (kLoc ρ k) c x b → OldOcc ρ m y b) ∧ (x.wr = true → (∃ d e, y = .at d e ∧ (mget m d).wr = true) ∨ ∃ z, y = .nil z) := by
  have hkl := kLoc_get (ρ := ρ) hk
  unfold simC at h
  split at h
  · exact ⟨trivial, fun b o => o.elim, fun e => by cases e⟩
  · rename_i sz n f
    have rd : ∀ (d e n' : Nat) (f' : Nat → List SV) (L : Loc), y = .at d e → ρ[d]? = some L → L.sz = sz → n + e ≤ n' → (0 < n' → L.blk < w.heap.size) → (∀ b, 0 < n' → L.blk = b → Occ ρ d (mget m d) b) →
        (∀ i, i < n' → ∃ vs, RelL ρ (f' i) vs ∧ vs.length = sz ∧ (∀ x ∈ vs, x.oneCell' = true) ∧ ∀ j u, vs[j]? = some u → w.cell? ⟨L.blk, L.off + i * sz + j, none⟩ = some u) → (∀ i, i < n → simL1 k m (f i) (f' (i + e))) →
        ChSat B (kLoc ρ k) w c (.ro sz n f) ∧ (∀ b, Occ (kLoc ρ k) c (.ro sz n f) b → OldOcc ρ m y b) ∧ (Ch.wr (.ro sz n f) = true → (∃ d e, y = .at d e ∧ (mget m d).wr = true) ∨ ∃ z, y = .nil z) := by
      intro d e n' f' L hy hL hs hle hblk hocc hrow hsim
      subst hy
      have hkl' := kLoc_at hk hL
      refine ⟨⟨_, hkl', hs, fun hn => hblk (by omega), fun i hi => ?_⟩, fun b o => ?_, fun hw => by cases hw⟩
      · obtain ⟨vs, r1, r2, r3, r4⟩ := hrow (i + e) (by omega)
        refine ⟨vs, simL1_sound hm (hsim i hi) r1, r2, r3, fun j u hu => ?_⟩
        have := r4 j u hu
        simp only [Loc.shift]
        rw [hs, show L.off + e * sz + i * sz + j = L.off + (i + e) * sz + j by rw [Nat.add_mul]; omega]
        exact this
      · obtain ⟨hn, L2, h2, h3⟩ := o
        rw [hkl'] at h2; cases h2
        exact hocc b (by omega) h3
    split at h
    · rename_i z
      cases hb : Nat.beq z sz with
      | false => rw [hb] at h; exact h.elim
      | true =>
        rw [hb] at h
        have := Nat.eq_of_beq_eq_true hb
        subst this
        have h0 : n = 0 := h
        subst h0
        exact ⟨⟨_, hkl, rfl, fun hn => absurd hn (by omega), fun i hi => absurd hi (by omega)⟩, fun b o => absurd o.1 (by omega), fun hw => by cases hw⟩
    · rename_i z
      cases hb : Nat.beq z sz with
      | false => rw [hb] at h; exact h.elim
      | true =>
        rw [hb] at h
        have := Nat.eq_of_beq_eq_true hb
        subst this
        have h0 : n = 0 := h
        subst h0
        exact ⟨⟨_, hkl, rfl, fun hn => absurd hn (by omega), fun i hi => absurd hi (by omega)⟩, fun b o => absurd o.1 (by omega), fun hw => by cases hw⟩
    · rename_i d e
      have hd := hm d
      split at h
      · rename_i sz' n' f' hmd
        rw [hmd] at hd
        cases hb : Nat.beq sz sz' with
        | false => rw [hb] at h; exact h.elim
        | true =>
          rw [hb] at h
          have := Nat.eq_of_beq_eq_true hb
          subst this
          obtain ⟨L, h1, h2, h3, h4⟩ := hd
          exact rd d e n' f' L rfl h1 h2 h.1 h3 (fun b hn hb => by rw [hmd]; exact ⟨hn, L, h1, hb⟩) h4 h.2
      · rename_i t sz' n' f' hmd
        rw [hmd] at hd
        cases hb : Nat.beq sz sz' with
        | false => rw [hb] at h; exact h.elim
        | true =>
          rw [hb] at h
          have := Nat.eq_of_beq_eq_true hb
          subst this
          obtain ⟨L, h1⟩ := hd.loc.resolve_left (fun e => by cases e)
          obtain ⟨h2, h3, h4⟩ := own_row hd h1
          refine rd d e n' f' L rfl h1 h2 h.1 h3 (fun b hn hb => ?_) h4 h.2
          rw [hmd]
          obtain ⟨L', vs, k1, k2, k3, k4, k5, _⟩ := hd
          rw [h1] at k1; cases k1
          rcases k4.2 with ⟨_, hn'⟩ | ⟨g, cap, cur, hv, _⟩
          · omega
          · have hg : L.own.ownBlock = some g := by rw [hv]; rfl
            exact ⟨L, h1, by rw [hg, ← (k5 g hg).1, hb]⟩
      · exact h.elim
  · rename_i t sz n f
    split at h
    · exact h.elim
    · rename_i z
      cases hb : Nat.beq z sz with
      | false => rw [hb] at h; exact h.elim
      | true =>
        rw [hb] at h
        have := Nat.eq_of_beq_eq_true hb
        subst this
        have h0 : n = 0 := h
        subst h0
        refine ⟨⟨_, [], hkl, rfl, rfl, ⟨by simp, .inl ⟨rfl, rfl⟩⟩, fun b hb => (by cases hb), by simp, fun i hi => absurd hi (by omega)⟩, fun b o => ?_, fun _ => .inr ⟨z, rfl⟩⟩
        obtain ⟨L2, h2, h3⟩ := o
        rw [hkl] at h2; cases h2
        cases h3
    · rename_i d e
      have hd := hm d
      split at h
      · rename_i t' sz' n' f' hmd
        rw [hmd] at hd
        cases hb : (Nat.beq t t' && Nat.beq sz sz' && Nat.beq e 0) with
        | false => rw [hb] at h; exact h.elim
        | true =>
          rw [hb] at h
          simp only [Bool.and_eq_true] at hb
          have h1 := Nat.eq_of_beq_eq_true hb.1.1
          have h2 := Nat.eq_of_beq_eq_true hb.1.2
          have h3 := Nat.eq_of_beq_eq_true hb.2
          subst h1 h2 h3
          obtain ⟨rfl, hsim⟩ := h
          obtain ⟨L, vs, k1, k2, k3, k4, k5, k6, k7⟩ := hd
          have hkl' := kLoc_at hk k1
          rw [Loc.shift_zero] at hkl'
          refine ⟨⟨L, vs, hkl', k2, k3, k4, k5, k6, fun i hi => simL1_sound hm (hsim i hi) (k7 i hi)⟩, fun b o => ?_, fun _ => .inl ⟨d, 0, rfl, by rw [hmd]; rfl⟩⟩
          obtain ⟨L2, h2, h3⟩ := o
          rw [hkl'] at h2; cases h2
          show Occ ρ d (mget m d) b
          rw [hmd]
          exact ⟨L, k1, h3⟩
      · exact h.elim
  · rename_i t l
    split at h
    · exact h.elim
    · exact h.elim
    · rename_i d e
      have hd := hm d
      split at h
      · rename_i t' l' hmd
        rw [hmd] at hd
        cases hb : (Nat.beq t t' && Nat.beq e 0) with
        | false => rw [hb] at h; exact h.elim
        | true =>
          rw [hb] at h
          simp only [Bool.and_eq_true] at hb
          have h1 := Nat.eq_of_beq_eq_true hb.1
          have h3 := Nat.eq_of_beq_eq_true hb.2
          subst h1 h3
          obtain ⟨L, vs, k1, k2, k3, k4, k5, k6, k7⟩ := hd
          have hkl' := kLoc_at hk k1
          rw [Loc.shift_zero] at hkl'
          refine ⟨⟨L, vs, hkl', k2, by have q1 := k5.length; have q2 := (simL1_sound (B := B) (w := w) hm h k5).length; omega, k4, simL1_sound hm h k5, k6, k7⟩, fun b o => ?_, fun _ => .inl ⟨d, 0, rfl, by rw [hmd]; rfl⟩⟩
          obtain ⟨L2, h2, h3⟩ := o
          rw [hkl'] at h2; cases h2
          show Occ ρ d (mget m d) b
          rw [hmd]
          exact ⟨L, k1, h3⟩
      · exact h.elim
end
end Go.Proofs.Ytdabahipeepheaa.Vc

namespace Go.Proofs.Ytdabahipeepheaa.Vc
open Go Go.RowKit

def idFrom : Nat → Nat → List Kp → List Kp
  | _, 0, r => r
  | i, n + 1, r => .at i 0 :: idFrom (i + 1) n r
def kps (n0 : Nat) (new : List Kp) : List Kp := idFrom 0 n0 new
def notIn (c : Nat) : List Kp → Bool
  | [] => true
  | .at d _ :: r => bif Nat.beq c d then false else notIn c r
  | .nul _ :: r => notIn c r
  | .nil _ :: r => notIn c r
def newOk (n0 nx : Nat) (f : Nat → Bool) : List Kp → Bool
  | [] => true
  | .at c e :: r => (Nat.ble n0 c || f c) && Nat.blt c nx && Nat.beq e 0 && notIn c r && newOk n0 nx f r
  | .nul _ :: r => newOk n0 nx f r
  | .nil _ :: r => newOk n0 nx f r
/-- A chunk that was handed in to be written, and is known no more under its old number, may go on under another one. -/
def frees (m m' : Mem) (c : Nat) : Bool := (match mget m' c with | .non => true | _ => false) && (mget m c).wr
def llen : List Kp → Nat
  | [] => 0
  | _ :: r => llen r + 1
theorem llen_eq : ∀ l : List Kp, llen l = l.length
  | [] => rfl
  | _ :: r => by simp [llen, llen_eq r]

theorem idFrom_get : ∀ (n i : Nat) (r : List Kp) (j : Nat), (idFrom i n r)[j]? = if j < n then some (.at (i + j) 0) else r[j - n]?
  | 0, i, r, j => by simp [idFrom]
  | n + 1, i, r, 0 => by simp [idFrom]
  | n + 1, i, r, j + 1 => by
    simp only [idFrom, List.getElem?_cons_succ, idFrom_get n]
    simp only [Nat.add_lt_add_iff_right, Nat.add_sub_add_right]
    split
    · congr 2; omega
    · rfl
theorem kps_get (n0 : Nat) (new : List Kp) (j : Nat) : (kps n0 new)[j]? = if j < n0 then some (.at j 0) else new[j - n0]? := by
  rw [kps, idFrom_get]; simp
theorem notIn_ne : ∀ {c : Nat} {l : List Kp}, notIn c l = true → ∀ d e, Kp.at d e ∈ l → c ≠ d
  | c, [], _, d, e, hd => by simp at hd
  | c, .at e0 e1 :: r, h, d, e, hd => by
    simp only [notIn] at h
    cases hb : Nat.beq c e0 with
    | true => rw [hb] at h; cases h
    | false =>
      rw [hb] at h
      rcases List.mem_cons.1 hd with he | hd
      · cases he; intro e'; subst e'; rw [Nat.beq_refl] at hb; cases hb
      · exact notIn_ne h d e hd
  | c, .nul _ :: r, h, d, e, hd => notIn_ne (l := r) h d e (by simpa using hd)
  | c, .nil _ :: r, h, d, e, hd => notIn_ne (l := r) h d e (by simpa using hd)
theorem newOk_get {n0 nx : Nat} {f : Nat → Bool} : ∀ {l : List Kp}, newOk n0 nx f l = true → (∀ (i c e : Nat), l[i]? = some (.at c e) → e = 0 ∧ (n0 ≤ c ∨ f c = true) ∧ c < nx) ∧ (∀ (i j c e e' : Nat), l[i]? = some (.at c e) → l[j]? = some (.at c e') → i = j)
  | [], _ => ⟨fun i c e h => by simp at h, fun i j c e e' h => by simp at h⟩
  | .nul z :: r, h => by
    obtain ⟨k1, k2⟩ := newOk_get (l := r) h
    refine ⟨fun i c e hc => ?_, fun i j c e e' hi hj => ?_⟩
    · cases i with
      | zero => simp at hc
      | succ i => exact k1 i c e (by simpa using hc)
    · cases i with
      | zero => simp at hi
      | succ i =>
        cases j with
        | zero => simp at hj
        | succ j => rw [k2 i j c e e' (by simpa using hi) (by simpa using hj)]
  | .nil z :: r, h => by
    obtain ⟨k1, k2⟩ := newOk_get (l := r) h
    refine ⟨fun i c e hc => ?_, fun i j c e e' hi hj => ?_⟩
    · cases i with
      | zero => simp at hc
      | succ i => exact k1 i c e (by simpa using hc)
    · cases i with
      | zero => simp at hi
      | succ i =>
        cases j with
        | zero => simp at hj
        | succ j => rw [k2 i j c e e' (by simpa using hi) (by simpa using hj)]
  | .at a b :: r, h => by
    simp only [newOk, Bool.and_eq_true] at h
    obtain ⟨⟨⟨⟨h1, h2⟩, h5⟩, h3⟩, h4⟩ := h
    obtain ⟨k1, k2⟩ := newOk_get h4
    have hn := notIn_ne h3
    refine ⟨fun i c e hc => ?_, fun i j c e e' hi hj => ?_⟩
    · cases i with
      | zero => simp at hc; obtain ⟨rfl, rfl⟩ := hc; exact ⟨Nat.eq_of_beq_eq_true h5, (Bool.or_eq_true _ _ ▸ h1).imp Nat.le_of_ble_eq_true (fun h => h), blt_lt h2⟩
      | succ i => exact k1 i c e (by simpa using hc)
    · cases i with
      | zero =>
        cases j with
        | zero => rfl
        | succ j =>
          simp at hi hj
          obtain ⟨rfl, rfl⟩ := hi
          exact absurd rfl (hn a e' (List.mem_of_getElem? hj))
      | succ i =>
        cases j with
        | zero =>
          simp at hi hj
          obtain ⟨rfl, rfl⟩ := hj
          exact absurd rfl (hn a e (List.mem_of_getElem? hi))
        | succ j => rw [k2 i j c e e' (by simpa using hi) (by simpa using hj)]

/-- A state entails another one, whose chunks are the first n0 and 'new'. -/
structure Sub (n0 : Nat) (new : List Kp) (s s' : St) : Prop where
  ok : newOk n0 s.nx (frees s.mem s'.mem) new = true
  nx : s'.nx = n0 + llen new
  fr : simF (kps n0 new) s.mem s.fr s'.fr
  mem : simM (kps n0 new) s.mem s'.mem

section
variable {Γ : Cx} {B : Bs} {ρ : List Loc} {s : St} {a : Act} {w : World} {m : Mem}

theorem simM_get {k : List Kp} {m : Mem} : ∀ {m' : Mem}, simM k m m' → ∀ c, mget m' c = .non ∨ ∃ y, kAt k c = some y ∧ simC k m (mget m' c) y
  | [], _, c => .inl rfl
  | (d, ch) :: r, h, c => by
    obtain ⟨h1, h2⟩ := h
    rw [mget_cons]
    split
    · rename_i e; subst e
      split at h1
      · rename_i y hk; exact .inr ⟨y, hk, h1⟩
      · exact h1.elim
    · exact simM_get h2 c

theorem ChSat.may {c : Nat} {ch : Ch} {b : Nat} (h : ChSat B ρ w c ch) (hw : ch.wr = true) (o : Occ ρ c ch b) : B.May b := by
  cases ch with
  | non => exact o.elim
  | ro sz n f => cases hw
  | own e sz n f =>
    obtain ⟨L, vs, h1, h2, h3, h4, h5, h6, h7⟩ := h
    obtain ⟨L', h1', h2'⟩ := o
    rw [h1] at h1'; cases h1'
    exact (h5 b h2').2
  | box t l =>
    obtain ⟨L, vs, h1, h2, h3, h4, h5, h6, h7⟩ := h
    obtain ⟨L', h1', h2'⟩ := o
    rw [h1] at h1'; cases h1'
    subst h2'
    exact h7

theorem keep_msat {n0 : Nat} {new : List Kp} {m' : Mem} (h : MSat B ρ m w) (hn0 : B.r0.length = n0) (hok : newOk n0 ρ.length (frees m m') new = true) (hsim : simM (kps n0 new) m m') :
    MSat B (kLoc ρ (kps n0 new)) m' w := by
  obtain ⟨o1, o2⟩ := newOk_get hok
  have kat : ∀ c d e, kAt (kps n0 new) c = some (.at d e) → e = 0 ∧ (c < n0 → d = c) ∧ (n0 ≤ c → (n0 ≤ d ∨ frees m m' d = true) ∧ new[c - n0]? = some (.at d 0)) := by
    intro c d e hy
    rw [kAt_eq, kps_get] at hy
    split at hy
    · rename_i hc
      cases hy
      exact ⟨rfl, fun _ => rfl, fun h => absurd h (by omega)⟩
    · rename_i hc
      obtain ⟨q1, q2, q3⟩ := o1 _ _ _ hy
      subst q1
      exact ⟨rfl, fun h => absurd h hc, fun _ => ⟨q2, hy⟩⟩
  have fre : ∀ d, frees m m' d = true → mget m' d = .non ∧ (mget m d).wr = true := by
    intro d h
    simp only [frees, Bool.and_eq_true] at h
    refine ⟨?_, h.2⟩
    have h1 := h.1
    split at h1
    · rename_i e; exact e
    · cases h1
  have inj : ∀ c c' d, mget m' c ≠ .non → mget m' c' ≠ .non → kAt (kps n0 new) c = some (.at d 0) → kAt (kps n0 new) c' = some (.at d 0) → c = c' := by
    intro c c' d n1 n2 h1 h2
    obtain ⟨_, l1, g1⟩ := kat c _ _ h1
    obtain ⟨_, l2, g2⟩ := kat c' _ _ h2
    rcases Nat.lt_or_ge c n0 with hc | hc
    · rcases Nat.lt_or_ge c' n0 with hc' | hc'
      · rw [← l1 hc, ← l2 hc']
      · have e := l1 hc
        rcases (g2 hc').1 with h | h
        · omega
        · subst e; exact absurd (fre _ h).1 n1
    · rcases Nat.lt_or_ge c' n0 with hc' | hc'
      · have e := l2 hc'
        rcases (g1 hc).1 with h | h
        · omega
        · subst e; exact absurd (fre _ h).1 n2
      · have := o2 _ _ _ _ _ (g1 hc).2 (g2 hc').2
        omega
  have occ : ∀ c b, Occ (kLoc ρ (kps n0 new)) c (mget m' c) b → ∃ d, kAt (kps n0 new) c = some (.at d 0) ∧ Occ ρ d (mget m d) b := by
    intro c b o
    rcases simM_get hsim c with hn | ⟨y, hk, hs⟩
    · rw [hn] at o; exact o.elim
    · have od := (simC_sound h.ch hk hs).2.1 b o
      cases y with
      | nul z => exact od.elim
      | nil z => exact od.elim
      | «at» d e =>
        obtain ⟨rfl, _⟩ := kat c d e hk
        exact ⟨d, hk, od⟩
  refine ⟨fun c => ?_, fun c c' b hne hw o o' => ?_, h.frm, fun c L hL => ?_, h.glb, fun c b hc o => ?_⟩
  · rcases simM_get hsim c with hn | ⟨y, hk, hs⟩
    · rw [hn]; trivial
    · exact (simC_sound h.ch hk hs).1
  · obtain ⟨d, hk, od⟩ := occ c b o
    obtain ⟨d', hk', od'⟩ := occ c' b o'
    have hdd : d ≠ d' := fun e => by subst e; exact hne (inj _ _ _ (fun e => by rw [e] at o; exact o.elim) (fun e => by rw [e] at o'; exact o'.elim) hk hk')
    have hwd : (mget m d).wr = true := by
      rcases simM_get hsim c with hn | ⟨y, hk2, hs⟩
      · rw [hn] at hw; cases hw
      · rw [hk] at hk2; cases hk2
        rcases (simC_sound h.ch hk hs).2.2 hw with ⟨d2, e2, he, hw2⟩ | ⟨z, he⟩
        · cases he; exact hw2
        · cases he
    exact h.sep d d' b hdd hwd od od'
  · have hc : c < n0 := by
      have := (List.getElem?_eq_some_iff.1 hL).1; omega
    have hk : kAt (kps n0 new) c = some (.at c 0) := by rw [kAt_eq, kps_get, if_pos hc]
    rw [kLoc_at hk (h.ext c L hL), Loc.shift_zero]
  · obtain ⟨d, hk, od⟩ := occ c b o
    obtain ⟨_, _, g1⟩ := kat c _ _ hk
    rcases (g1 (by omega)).1 with h1 | h1
    · exact h.fresh d b (by omega) od
    · exact (h.ch d).may (fre _ h1).2 od

theorem kLoc_len (ρ : List Loc) (k : List Kp) : (kLoc ρ k).length = k.length := by simp [kLoc]
theorem kps_len (n0 : Nat) (new : List Kp) : (kps n0 new).length = n0 + new.length := by
  have h1 : ∀ (n i : Nat) (r : List Kp), (idFrom i n r).length = n + r.length := by
    intro n
    induction n with
    | zero => intro i r; simp [idFrom]
    | succ n ih => intro i r; simp only [idFrom, List.length_cons, ih]; omega
  rw [kps, h1]

theorem Sub.sound (ok : Γ.Ok) {new : List Kp} {s' : St} (h : Sub Γ.n0 new s s') (H : Holds Γ.B Γ.N ρ s a w) : ∃ ρ', Holds Γ.B Γ.N ρ' s' a w := by
  refine ⟨kLoc ρ (kps Γ.n0 new), ?_, simF_sound H.mem.ch H.fr _ h.fr, H.size, H.dfr, keep_msat H.mem ok.len (by rw [H.nx]; exact h.ok) h.mem⟩
  rw [kLoc_len, kps_len, h.nx, llen_eq]

/-- A LOOP: an invariant, a measure. -/
theorem loop_rule {α : Type} (I : α → St) (C : α → Prop) (μ : α → Nat) (x : α) (new : List Kp) {c : Code} {s : St} {E : Nat → St → Prop} {R : St → Prop} (h0 : C x) (hs : Sub Γ.n0 new s (I x))
    (round : ∀ x, C x → vcCode Γ c (I x) (fun s' => ∃ y new, C y ∧ μ y < μ x ∧ Sub Γ.n0 new s' (I y)) E R) : LoopP Γ c s E R := by
  refine ⟨fun ok ρ a w H => ?_⟩
  have key : ∀ n x, μ x = n → C x → ∀ ρ a w, Holds Γ.B Γ.N ρ (I x) a w → ∀ (b : Frame) (k : List Item) (cs : List Frame),
      ∃ e a' w', Post Γ (fun _ => False) E R e a' w' ∧ Arrives Γ.P (lone (b.at a (.code c :: .inLoop c :: k)) cs w) b k cs e a' w' := by
    intro n
    induction n using Nat.strongRecOn with
    | _ n ih =>
      intro x hn hC ρ a w H b k cs
      obtain ⟨e, a₁, w₁, hq, harr⟩ := vcCode_sound ok c (I x) _ E R ρ a w (round x hC) H b (.inLoop c :: k) cs
      cases e with
      | normal =>
        obtain ⟨s', ρ', ⟨y, new, hCy, hlt, hsub⟩, H'⟩ := hq
        obtain ⟨ρ'', H''⟩ := hsub.sound ok H'
        obtain ⟨e₂, a₂, w₂, hq₂, harr₂⟩ := ih (μ y) (hn ▸ hlt) y rfl hCy ρ'' a₁ w₁ H'' b k cs
        exact ⟨e₂, a₂, w₂, hq₂, .of_steps (Steps.trans harr (.one step_inLoop)) harr₂⟩
      | exit id => exact ⟨.exit id, a₁, w₁, hq, .pass (x := .inLoop c) rfl (fun _ _ => .inl (by simp)) harr⟩
      | goto l => exact hq.elim
      | ret => exact ⟨.ret, a₁, w₁, hq, .pass (x := .inLoop c) rfl (fun _ _ => .inl (by simp)) harr⟩
      | panic ch => exact hq.elim
      | outgrown => exact hq.elim
  obtain ⟨ρ', H'⟩ := hs.sound ok H
  intro b k cs
  obtain ⟨e, a', w', hq, harr⟩ := key _ x rfl h0 ρ' a w H' b k cs
  exact ⟨e, a', w', hq, .of_steps (.one step_loop) harr⟩
end
end Go.Proofs.Ytdabahipeepheaa.Vc

namespace Go.Proofs.Ytdabahipeepheaa.Vc
open Go Go.RowKit

/-- A FUNCTION's CONTRACT: from these arguments over these chunks (nx of them) it comes back with such a value over such chunks (the first nx are the old ones). -/
def Con (P : Program) (G : List (Nat × Value)) (g : Nat) (args : List SV) (mem : Mem) (nx : Nat) (Q : SV → Mem → Nat → Prop) : Prop :=
  Fun P g ∧ ∀ (B : Bs) (w : World) (vs : List Value), B.w0 = w → B.glob = G → B.r0.length = nx → MSat B B.r0 mem w → RelL B.r0 args vs →
    Calls P g vs.toArray w (fun e w' => ∃ v x mem' n ρ', e = .returned v ∧ Q x mem' n ∧ ρ'.length = n ∧ Rel ρ' x v ∧ MSat B ρ' mem' w')

theorem Con.mono {P : Program} {G : List (Nat × Value)} {g : Nat} {args : List SV} {mem : Mem} {nx : Nat} {Q Q' : SV → Mem → Nat → Prop} (h : Con P G g args mem nx Q) (hq : ∀ x m n, Q x m n → Q' x m n) : Con P G g args mem nx Q' :=
  ⟨h.1, fun B w vs h1 h2 h3 h4 h5 => (h.2 B w vs h1 h2 h3 h4 h5).mono fun _ _ ⟨v, x, m, n, ρ', e, q, r⟩ => ⟨v, x, m, n, ρ', e, hq _ _ _ q, r⟩⟩

def parF : Nat → List SV → Fr
  | _, [] => []
  | i, x :: r => (i, x) :: parF (i + 1) r
theorem parF_get : ∀ (l : List SV) (i t : Nat), i ≤ t → fget (parF i l) t = (l[t - i]?).getD .u
  | [], i, t, _ => by simp [parF, fget]
  | x :: r, i, t, h => by
    simp only [parF]
    rw [fget_cons]
    split
    · rename_i e; subst e; simp
    · rw [parF_get r (i + 1) t (by omega), show t - i = (t - (i + 1)) + 1 by omega, List.getElem?_cons_succ]

/-- The results, in their order. -/
def resL (tab : Tab) (s : St) : List ResultVar → (List SV → Prop) → Prop
  | [], K => K []
  | .tmp t :: r, K => resL tab s r fun l => K (fget s.fr t :: l)
  | .cell a T :: r, K => match fget s.fr a with
    | .p c i d => cont (mget s.mem c) i fun q => ldL tab T q d fun x => resL tab s r fun l => K (x :: l)
    | _ => False
/-- What a function's end owes: what it hands back, over the chunks that are kept. -/
structure RetQ (n0 : Nat) (Q : SV → Mem → Nat → Prop) (s : St) (y : SV) (new : List Kp) (x : SV) (m' : Mem) (n : Nat) : Prop where
  post : Q x m' n
  ok : newOk n0 s.nx (frees s.mem m') new = true
  nx : n = n0 + llen new
  val : sim3 (kps n0 new) s.mem x y
  mem : simM (kps n0 new) s.mem m'
def Ret (n0 : Nat) (Q : SV → Mem → Nat → Prop) (s : St) (y : SV) : Prop := ∃ new x m' n, RetQ n0 Q s y new x m' n
/-- It hands back plain values, and no memory. -/
def retM (X : SV) (M : Mem) (k : Nat) : SV → Mem → Nat → Prop := fun x m n => x = X ∧ m = M ∧ n = k
abbrev retV (n0 : Nat) (X : SV) : SV → Mem → Nat → Prop := retM X [] n0
theorem ret_mem {n0 k : Nat} {X : SV} {M : Mem} {s : St} {y : SV} (new : List Kp) (h1 : newOk n0 s.nx (frees s.mem M) new = true) (h2 : k = n0 + llen new) (h : sim3 (kps n0 new) s.mem X y) (h3 : simM (kps n0 new) s.mem M) : Ret n0 (retM X M k) s y := ⟨new, X, M, k, ⟨⟨rfl, rfl, rfl⟩, h1, h2, h, h3⟩⟩
theorem ret_plain {n0 : Nat} {X : SV} {s : St} {y : SV} (h : sim3 (kps n0 []) s.mem X y) : Ret n0 (retV n0 X) s y := ⟨[], X, [], n0, ⟨⟨rfl, rfl, rfl⟩, rfl, rfl, h, trivial⟩⟩
theorem ret_bool {n0 : Nat} {Q : Bool → Prop} {s : St} (r : Bool) (h : Q r) : Ret n0 (fun x m n => ∃ r : Bool, x = .v (.bool r) ∧ m = [] ∧ n = n0 ∧ Q r) s (.v (.bool r)) := ⟨[], .v (.bool r), [], n0, ⟨⟨r, rfl, rfl, rfl, h⟩, rfl, rfl, rfl, trivial⟩⟩
def one1 : List SV → SV
  | [x] => x
  | l => .t l
def RetP (n0 : Nat) (tab : Tab) (rs : List ResultVar) (Q : SV → Mem → Nat → Prop) (s : St) : Prop := resL tab s rs fun l => Ret n0 Q s (one1 l)

section
variable {P : Program} {tab : Tab}
def resM (P : Program) (tmps : Array Value) (w : World) (rs : List ResultVar) : Result (List Value) :=
  (rs.mapM (fun (r : ResultVar) => match r with | .tmp t => (pure (tmps.getD t undef) : Sem Value) | .cell a t => (do loadVar t (← asAddr (tmps.getD a undef))))).run P w
theorem resL_sound (ht : Tab.ok P tab) {B : Bs} {N : Nat} {ρ : List Loc} {s : St} {a : Act} {w : World} (H : Holds B N ρ s a w) : ∀ (rs : List ResultVar) (K : List SV → Prop), resL tab s rs K →
    ∃ l vs, K l ∧ RelL ρ l vs ∧ resM P a.tmps w rs = .ok vs w
  | [], K, h => ⟨[], [], h, by simp only [RelL], by simp [resM]⟩
  | .tmp t :: r, K, h => by
    obtain ⟨l, vs, h1, h2, h3⟩ := resL_sound ht H r _ h
    refine ⟨_, a.tmps.getD t undef :: vs, h1, ?_, ?_⟩
    · simp only [RelL]; exact ⟨_, _, rfl, H.fr t, h2⟩
    · unfold resM at h3 ⊢
      simp only [List.mapM_cons, Sem.run_bind, Sem.run_pure, Result.andThen_ok, h3]
  | .cell c T :: r, K, h => by
    simp only [resL] at h
    have hx := H.fr c
    split at h
    · rename_i d i o he
      rw [he] at hx
      obtain ⟨L, hL, hv⟩ := rel_p hx
      obtain ⟨l, L', vs, hk, hL', hr, h1, hc⟩ := cont_sound H.mem h
      rw [hL] at hL'; cases hL'
      obtain ⟨v, y, hrun, hy, hk'⟩ := ldL_sound ht hk hr h1 hc
      obtain ⟨l2, vs2, g1, g2, g3⟩ := resL_sound ht H r _ hk'
      refine ⟨_, v :: vs2, g1, ?_, ?_⟩
      · simp only [RelL]; exact ⟨_, _, rfl, hy, g2⟩
      · have ha : (asAddr (a.tmps.getD c undef)).run P w = .ok ⟨L.blk, L.off + i * L.sz + o, none⟩ w := by rw [hv]; simp [asAddr]
        unfold resM at g3 ⊢
        simp only [List.mapM_cons, Sem.run_bind, Sem.run_pure, ha, Result.andThen_ok, hrun, g3]
    · exact h.elim

theorem results_run {fn : Func} {tmps : Array Value} {w : World} {vs : List Value} (h : resM P tmps w fn.results.toList = .ok vs w) : (results fn tmps).run P w = .ok (if hs : vs.length = 1 then vs[0] else .tuple vs.toArray) w := by
  unfold results
  rw [Array.mapM_eq_mapM_toList]
  simp only [Sem.run_bind]
  rw [Sem.run_map]
  generalize hq : Sem.run P (List.mapM _ fn.results.toList) w = q
  have hq' : q = .ok vs w := by rw [← hq]; exact h
  subst hq'
  simp only [Result.andThen_ok, Sem.run_pure]
  rfl

theorem ret_sound (ht : Tab.ok P tab) {B : Bs} {N n0 : Nat} {ρ : List Loc} {s : St} {a : Act} {w : World} {fn : Func} {Q : SV → Mem → Nat → Prop} (hn : B.r0.length = n0) (H : Holds B N ρ s a w) (h : RetP n0 tab fn.results.toList Q s) :
    ∃ v x mem' n ρ', (results fn a.tmps).run P w = .ok v w ∧ Q x mem' n ∧ ρ'.length = n ∧ Rel ρ' x v ∧ MSat B ρ' mem' w := by
  obtain ⟨l, vs, ⟨new, x, m', n, hq⟩, hr, hm⟩ := resL_sound ht H _ _ h
  refine ⟨_, x, m', n, kLoc ρ (kps n0 new), results_run hm, hq.post, ?_, ?_, keep_msat H.mem hn (by rw [H.nx]; exact hq.ok) hq.mem⟩
  · rw [kLoc_len, kps_len, hq.nx, llen_eq]
  · refine sim3_sound H.mem.ch hq.val ?_
    have hlen := hr.length
    match l, vs, hr with
    | [], [], hr => simp only [one1, Rel]; exact ⟨_, rfl, hr⟩
    | [x], [v], hr => simp only [RelL] at hr; obtain ⟨_, _, e, h1, _⟩ := hr; cases e; exact h1
    | x :: y :: r, v :: u :: q, hr => simp only [one1, Rel]; exact ⟨_, rfl, hr⟩

/-- HOW A CONTRACT IS PROVED: the function's code is gone through. -/
theorem spec_intro {G : List (Nat × Value)} {g : Nat} {fn : Func} {c : Code} {args : List SV} {mem : Mem} {nx N : Nat} {Q : SV → Mem → Nat → Prop} (hfn : P.funcs[g]? = some fn) (hb : fn.body = some c) (hname : (fn.name == "runtime.NumGoroutine") = false) (ht : Tab.ok P tab) (hm : P.follows .mixedOrders = true)
    (hN : fn.ntmps = N) (hna : Nat.ble args.length N = true) (rs : List ResultVar) (hrs : fn.results.toList = rs)
    (h : ∀ B : Bs, B.glob = G → vcCode ⟨P, tab, B, N, nx⟩ c ⟨parF 0 args, mem, nx⟩ (RetP nx tab rs Q) (fun _ _ => False) (RetP nx tab rs Q)) : Con P G g args mem nx Q := by
  subst hrs
  refine ⟨⟨fn, hfn, hname, by rw [hb]; rfl⟩, fun B w vs hw hG hn hms hrel => ?_⟩
  subst hN
  have hlen := hrel.length
  have hle : vs.length ≤ fn.ntmps := by rw [hlen]; exact Nat.le_of_ble_eq_true hna
  have ok : Cx.Ok ⟨P, tab, B, fn.ntmps, nx⟩ := ⟨ht, hm, hn⟩
  refine calls_of_wp hfn hb (wp_mono (vcCode_sound ok c _ _ _ _ B.r0 _ w (h B hG) ⟨hn, fun t => ?_, ?_, rfl, hms⟩) ?_)
  · simp only
    rw [parF_get _ _ _ (Nat.zero_le _), Nat.sub_zero]
    simp only [Array.getD_eq_getD_getElem?]
    cases he : args[t]? with
    | none => simp only [Option.getD_none, Rel]
    | some x =>
      obtain ⟨v, hv, hx⟩ := hrel.get he
      have hlt : t < vs.length := (List.getElem?_eq_some_iff.1 hv).1
      rw [Array.getElem?_append_left (by simpa using hlt)]
      simp only [List.getElem?_toArray, hv, Option.getD_some]
      exact hx
  · simp; omega
  · intro e a' w' hq
    cases e with
    | normal =>
      obtain ⟨s', ρ', hk, H'⟩ := hq
      obtain ⟨v, x, m', n, ρ'', h1, h2⟩ := ret_sound ht hn H' hk
      exact ⟨H'.dfr, v, h1, v, x, m', n, ρ'', rfl, h2⟩
    | ret =>
      obtain ⟨s', ρ', hk, H'⟩ := hq
      obtain ⟨v, x, m', n, ρ'', h1, h2⟩ := ret_sound ht hn H' hk
      exact ⟨H'.dfr, v, h1, v, x, m', n, ρ'', rfl, h2⟩
    | exit i => obtain ⟨_, _, hf, _⟩ := hq; exact hf.elim
    | _ => exact hq.elim
end
end Go.Proofs.Ytdabahipeepheaa.Vc

namespace Go.Proofs.Ytdabahipeepheaa.Vc
open Go Go.RowKit

/-- Where a callee's chunk lies for its caller. -/
def kAll (k : List Kp) (n0 b c : Nat) : Option Kp := bif Nat.blt c n0 then kAt k c else some (.at (b + (c - n0)) 0)
def ren0 (k : List Kp) (n0 b : Nat) : SV → SV
  | .v x => .v x
  | .p c i o => match kAll k n0 b c with | some (.at d e) => .p d (i + e) o | _ => .u
  | .s c i n => match kAll k n0 b c with | some (.at d e) => .s d (i + e) n | _ => .u
  | .o c => match kAll k n0 b c with | some (.at d 0) => .o d | _ => .u
  | _ => .u
def renL0 (k : List Kp) (n0 b : Nat) : List SV → List SV
  | [] => []
  | x :: r => ren0 k n0 b x :: renL0 k n0 b r
def ren1 (k : List Kp) (n0 b : Nat) : SV → SV
  | .f g l => .f g (renL0 k n0 b l)
  | x => ren0 k n0 b x
def renL1 (k : List Kp) (n0 b : Nat) : List SV → List SV
  | [] => []
  | x :: r => ren1 k n0 b x :: renL1 k n0 b r
def ren2 (k : List Kp) (n0 b : Nat) : SV → SV
  | .a l => .a (renL1 k n0 b l)
  | x => ren1 k n0 b x
def renL2 (k : List Kp) (n0 b : Nat) : List SV → List SV
  | [] => []
  | x :: r => ren2 k n0 b x :: renL2 k n0 b r
def ren3 (k : List Kp) (n0 b : Nat) : SV → SV
  | .t l => .t (renL2 k n0 b l)
  | x => ren2 k n0 b x
def renC (k : List Kp) (n0 b : Nat) : Ch → Ch
  | .non => .non
  | .ro sz n f => .ro sz n fun i => renL1 k n0 b (f i)
  | .own e sz n f => .own e sz n fun i => renL1 k n0 b (f i)
  | .box t l => .box t (renL1 k n0 b l)
/-- A chunk that was handed over to be written: it is of its kind still, or nothing is known of it. -/
def renW (k : List Kp) (n0 b : Nat) (old new : Ch) : Ch :=
  match old with
  | .box .. => match new with
    | .box t l => .box t (renL1 k n0 b l)
    | _ => .non
  | .own .. => match new with
    | .own e sz n f => .own e sz n fun i => renL1 k n0 b (f i)
    | _ => .non
  | _ => .non
def newM (k : List Kp) (n0 b : Nat) (m' : Mem) : Nat → Nat → Nat → Mem → Mem
  | _, _, 0, r => r
  | c, d, n + 1, r => (d, renC k n0 b (mget m' c)) :: newM k n0 b m' (c + 1) (d + 1) n r
def wrM (k : List Kp) (n0 b : Nat) (m' : Mem) : Mem → Mem → Mem
  | [], r => r
  | (c, ch) :: q, r => match ch.wr with
    | true => (match kAt k c with | some (.at d _) => (d, renW k n0 b ch (mget m' c)) :: wrM k n0 b m' q r | _ => wrM k n0 b m' q r)
    | false => wrM k n0 b m' q r
/-- What is handed over to be written lies apart from all else that is handed over. -/
def otherK (c d : Nat) : Nat → List Kp → Bool
  | _, [] => true
  | i, .at d' _ :: r => (bif Nat.beq i c then true else bif Nat.beq d d' then false else true) && otherK c d (i + 1) r
  | i, .nul _ :: r => otherK c d (i + 1) r
  | i, .nil _ :: r => otherK c d (i + 1) r
def wrOk (k : List Kp) : Mem → Bool
  | [] => true
  | (c, ch) :: q => match ch.wr with
    | true => (match kAt k c with | some (.at d _) => otherK c d 0 k | _ => false) && wrOk k q
    | false => wrOk k q

section
variable {B B0 : Bs} {ρ ρ1 ρ' : List Loc} {m m' mem : Mem} {w w' : World} {k : List Kp} {n0 b : Nat}

/-- The caller's places tell the callee's. -/
def Fits (k : List Kp) (n0 b : Nat) (ρ1 ρ' : List Loc) : Prop := ∀ (c : Nat) (L : Loc), ρ1[c]? = some L → ∀ d e, kAll k n0 b c = some (.at d e) → ∃ L', ρ'[d]? = some L' ∧ L = L'.shift e

theorem ren0_sound (hf : Fits k n0 b ρ1 ρ') {x : SV} {v : Value} (hr : Rel ρ1 x v) : Rel ρ' (ren0 k n0 b x) v := by
  unfold ren0
  split
  · simpa only [Rel] using hr
  · split
    · rename_i d e hk
      obtain ⟨L, hL, rfl⟩ := rel_p hr
      obtain ⟨L', hL', rfl⟩ := hf _ _ hL d e hk
      simp only [Rel]
      refine ⟨L', hL', ?_⟩
      simp only [Loc.shift, Nat.add_mul]
      congr 3
      omega
    · simp only [Rel]
  · split
    · rename_i d e hk
      obtain ⟨L, A, q, hL, hv, hn, hq, hA⟩ := rel_s hr
      obtain ⟨L', hL', rfl⟩ := hf _ _ hL d e hk
      simp only [Rel]
      refine ⟨L', A, q, hL', hv, hn, hq, fun hp => ?_⟩
      rw [hA hp]
      simp only [Loc.shift, Nat.add_mul]
      congr 2
      omega
    · simp only [Rel]
  · split
    · rename_i d hk
      simp only [Rel] at hr ⊢
      obtain ⟨L, hL, h1, h2⟩ := hr
      obtain ⟨L', hL', rfl⟩ := hf _ _ hL d 0 hk
      rw [Loc.shift_zero] at h1
      exact ⟨L', hL', h1, h2⟩
    · simp only [Rel]
  · simp only [Rel]
theorem renL0_sound (hf : Fits k n0 b ρ1 ρ') : ∀ {x : List SV} {v : List Value}, RelL ρ1 x v → RelL ρ' (renL0 k n0 b x) v
  | [], _, hr => by simpa only [renL0, RelL] using hr
  | x :: r, _, hr => by
    simp only [RelL] at hr
    obtain ⟨u, ur, rfl, h1, h2⟩ := hr
    simp only [renL0, RelL]
    exact ⟨_, _, rfl, ren0_sound hf h1, renL0_sound hf h2⟩
theorem ren1_sound (hf : Fits k n0 b ρ1 ρ') {x : SV} {v : Value} (hr : Rel ρ1 x v) : Rel ρ' (ren1 k n0 b x) v := by
  unfold ren1
  split
  · obtain ⟨vs, hv, hl⟩ := rel_f hr
    simp only [Rel]
    exact ⟨vs, hv, renL0_sound hf hl⟩
  · exact ren0_sound hf hr
theorem renL1_sound (hf : Fits k n0 b ρ1 ρ') : ∀ {x : List SV} {v : List Value}, RelL ρ1 x v → RelL ρ' (renL1 k n0 b x) v
  | [], _, hr => by simpa only [renL1, RelL] using hr
  | x :: r, _, hr => by
    simp only [RelL] at hr
    obtain ⟨u, ur, rfl, h1, h2⟩ := hr
    simp only [renL1, RelL]
    exact ⟨_, _, rfl, ren1_sound hf h1, renL1_sound hf h2⟩
theorem ren2_sound (hf : Fits k n0 b ρ1 ρ') {x : SV} {v : Value} (hr : Rel ρ1 x v) : Rel ρ' (ren2 k n0 b x) v := by
  unfold ren2
  split
  · obtain ⟨vs, hv, hl, h1⟩ := rel_a hr
    simp only [Rel]
    exact ⟨vs, hv, renL1_sound hf hl, h1⟩
  · exact ren1_sound hf hr
theorem renL2_sound (hf : Fits k n0 b ρ1 ρ') : ∀ {x : List SV} {v : List Value}, RelL ρ1 x v → RelL ρ' (renL2 k n0 b x) v
  | [], _, hr => by simpa only [renL2, RelL] using hr
  | x :: r, _, hr => by
    simp only [RelL] at hr
    obtain ⟨u, ur, rfl, h1, h2⟩ := hr
    simp only [renL2, RelL]
    exact ⟨_, _, rfl, ren2_sound hf h1, renL2_sound hf h2⟩
theorem ren3_sound (hf : Fits k n0 b ρ1 ρ') {x : SV} {v : Value} (hr : Rel ρ1 x v) : Rel ρ' (ren3 k n0 b x) v := by
  unfold ren3
  split
  · obtain ⟨vs, hv, hl⟩ := rel_t hr
    simp only [Rel]
    exact ⟨vs, hv, renL2_sound hf hl⟩
  · exact ren2_sound hf hr

theorem newM_get (r : Mem) : ∀ (n c d x : Nat), mget (newM k n0 b m' c d n r) x = if d ≤ x ∧ x < d + n then renC k n0 b (mget m' (c + (x - d))) else mget r x
  | 0, c, d, x => by simp only [newM]; rw [if_neg (by omega)]
  | n + 1, c, d, x => by
    simp only [newM]
    rw [mget_cons]
    by_cases h : d = x
    · subst h; rw [if_pos rfl, if_pos (by omega)]; simp
    · rw [if_neg h, newM_get r n (c + 1) (d + 1) x]
      by_cases h2 : d + 1 ≤ x ∧ x < d + 1 + n
      · rw [if_pos h2, if_pos (by omega), show c + 1 + (x - (d + 1)) = c + (x - d) by omega]
      · rw [if_neg h2, if_neg (by omega)]
theorem wrM_get (r : Mem) (x : Nat) : ∀ (q : Mem), (∃ c ch e, (c, ch) ∈ q ∧ ch.wr = true ∧ kAt k c = some (.at x e) ∧ mget (wrM k n0 b m' q r) x = renW k n0 b ch (mget m' c)) ∨
    ((∀ c ch e, (c, ch) ∈ q → ch.wr = true → kAt k c ≠ some (.at x e)) ∧ mget (wrM k n0 b m' q r) x = mget r x)
  | [] => .inr ⟨fun _ _ _ h => by simp at h, rfl⟩
  | (c, ch) :: q => by
    have ih := wrM_get r x q
    have skip : (∀ e, ch.wr = true → kAt k c ≠ some (.at x e)) → mget (wrM k n0 b m' ((c, ch) :: q) r) x = mget (wrM k n0 b m' q r) x →
        (∃ c' ch' e, (c', ch') ∈ (c, ch) :: q ∧ ch'.wr = true ∧ kAt k c' = some (.at x e) ∧ mget (wrM k n0 b m' ((c, ch) :: q) r) x = renW k n0 b ch' (mget m' c')) ∨
        ((∀ c' ch' e, (c', ch') ∈ (c, ch) :: q → ch'.wr = true → kAt k c' ≠ some (.at x e)) ∧ mget (wrM k n0 b m' ((c, ch) :: q) r) x = mget r x) := by
      intro hne he
      rw [he]
      rcases ih with ⟨c', ch', e', h1, h2, h3, h4⟩ | ⟨h1, h2⟩
      · exact .inl ⟨c', ch', e', by simp [h1], h2, h3, h4⟩
      · refine .inr ⟨fun c' ch' e' hm hw => ?_, h2⟩
        rcases List.mem_cons.1 hm with he | hm
        · cases he; exact hne e' hw
        · exact h1 c' ch' e' hm hw
    cases hw : ch.wr with
    | false => exact skip (fun e h => by rw [hw] at h; cases h) (by simp only [wrM, hw])
    | true =>
      cases hk : kAt k c with
      | none => exact skip (fun e _ => by rw [hk]; simp) (by simp only [wrM, hw, hk])
      | some y =>
        cases y with
        | nul z => exact skip (fun e _ => by rw [hk]; simp) (by simp only [wrM, hw, hk])
        | nil z => exact skip (fun e _ => by rw [hk]; simp) (by simp only [wrM, hw, hk])
        | «at» d e =>
          by_cases hd : d = x
          · subst hd
            refine .inl ⟨c, ch, e, by simp, hw, hk, ?_⟩
            simp only [wrM, hw, hk]
            rw [mget_cons, if_pos rfl]
          · refine skip (fun e' _ => by rw [hk]; intro h; cases h; exact hd rfl) ?_
            simp only [wrM, hw, hk]
            rw [mget_cons, if_neg hd]

theorem otherK_at : ∀ (l : List Kp) (i c d : Nat), otherK c d i l = true → ∀ (c' : Nat) e', i + c' ≠ c → kAt l c' ≠ some (.at d e') := by
  intro l
  induction l with
  | nil => intro i c d _ c' e' _; simp [kAt]
  | cons y r ih =>
    intro i c d h c' e' hne
    cases y with
    | nul z =>
      simp only [otherK] at h
      cases c' with
      | zero => simp [kAt]
      | succ c' => simp only [kAt]; exact ih (i + 1) c d h c' e' (by omega)
    | nil z =>
      simp only [otherK] at h
      cases c' with
      | zero => simp [kAt]
      | succ c' => simp only [kAt]; exact ih (i + 1) c d h c' e' (by omega)
    | «at» d' e2 =>
      simp only [otherK, Bool.and_eq_true] at h
      cases c' with
      | zero =>
        simp only [kAt]
        intro he
        cases he
        have h1 := h.1
        have hb : Nat.beq i c = false := by
          cases e : Nat.beq i c with
          | false => rfl
          | true => exact absurd (Nat.eq_of_beq_eq_true e) (by omega)
        rw [hb, Nat.beq_refl] at h1
        cases h1
      | succ c' => simp only [kAt]; exact ih (i + 1) c d h.2 c' e' (by omega)
theorem wrOk_at : ∀ {q : Mem}, wrOk k q = true → ∀ {c ch}, (c, ch) ∈ q → ch.wr = true → ∃ d e, kAt k c = some (.at d e) ∧ ∀ c' e', c' ≠ c → kAt k c' ≠ some (.at d e')
  | [], _, _, _, h, _ => by simp at h
  | (c0, ch0) :: q, h, c, ch, hm, hw => by
    simp only [wrOk] at h
    rcases List.mem_cons.1 hm with he | hm
    · cases he
      rw [hw] at h
      simp only [Bool.and_eq_true] at h
      have h1 := h.1
      split at h1
      · rename_i d e hk
        exact ⟨d, e, hk, fun c' e' hne => otherK_at k 0 _ d h1 c' e' (by omega)⟩
      · cases h1
    · cases hw0 : ch0.wr with
      | true => rw [hw0] at h; simp only [Bool.and_eq_true] at h; exact wrOk_at h.2 hm hw
      | false => rw [hw0] at h; exact wrOk_at h hm hw
theorem mget_mem : ∀ {q : Mem} {c : Nat} {ch : Ch}, mget q c = ch → ch ≠ .non → (c, ch) ∈ q
  | [], c, ch, h, hne => absurd h.symm hne
  | (d, x) :: q, c, ch, h, hne => by
    rw [mget_cons] at h
    split at h
    · rename_i e; subst e; subst h; simp
    · simp [mget_mem h hne]
theorem simM_mem {k : List Kp} {m : Mem} : ∀ {q : Mem}, simM k m q → ∀ {c ch}, (c, ch) ∈ q → ∃ y, kAt k c = some y ∧ simC k m ch y
  | [], _, _, _, h => by simp at h
  | (d, x) :: q, h, c, ch, hm => by
    obtain ⟨h1, h2⟩ := h
    rcases List.mem_cons.1 hm with he | hm
    · cases he
      split at h1
      · rename_i y hk; exact ⟨y, hk, h1⟩
      · exact h1.elim
    · exact simM_mem h2 hm

def calleeX (ρ : List Loc) (k : List Kp) (mem : Mem) (x : Nat) : Prop := ∃ c ch, (c, ch) ∈ mem ∧ ch.wr = true ∧ Occ (kLoc ρ k) c ch x

/-- What the callee begins with. -/
theorem enter_msat (h : MSat B ρ m w) (hsim : simM k m mem) (hwr : wrOk k mem = true) : MSat ⟨w, calleeX ρ k mem, kLoc ρ k, B.glob⟩ (kLoc ρ k) mem w := by
  refine ⟨fun c => ?_, fun c c' x hne hw o o' => ?_, ⟨rfl, rfl, rfl, Nat.le_refl _, fun _ _ _ => rfl⟩, Ext.refl _, fun g v hg => ⟨?_, ?_, h.frm.glb h.glb hg⟩, fun c x hc o => ?_⟩
  · rcases simM_get hsim c with hn | ⟨y, hk, hs⟩
    · rw [hn]; trivial
    · obtain ⟨h1, _, _⟩ := simC_sound h.ch hk hs
      cases hch : mget mem c with
      | non => trivial
      | ro sz n f => rw [hch] at h1; exact h1
      | own e sz n f =>
        rw [hch] at h1
        obtain ⟨L, vs, k1, k2, k3, k4, k5, k6, k7⟩ := h1
        exact ⟨L, vs, k1, k2, k3, k4, fun b hb => ⟨(k5 b hb).1, .inr ⟨c, _, mget_mem hch (by simp), rfl, L, k1, hb⟩⟩, k6, k7⟩
      | box t l =>
        rw [hch] at h1
        obtain ⟨L, vs, k1, k2, k3, k4, k5, k6, _⟩ := h1
        exact ⟨L, vs, k1, k2, k3, k4, k5, k6, .inr ⟨c, _, mget_mem hch (by simp), rfl, L, k1, rfl⟩⟩
  · rcases simM_get hsim c with hn | ⟨y, hk, hs⟩
    · rw [hn] at hw; cases hw
    · rcases simM_get hsim c' with hn' | ⟨y', hk', hs'⟩
      · rw [hn'] at o'; exact o'.elim
      · obtain ⟨_, q2, q3⟩ := simC_sound h.ch hk hs
        obtain ⟨_, r2, _⟩ := simC_sound h.ch hk' hs'
        have od := q2 x o
        obtain ⟨d, e, rfl, hwd⟩ := (q3 hw).resolve_right (by rintro ⟨z, rfl⟩; exact od)
        have od' := r2 x o'
        have hne0 : mget mem c ≠ .non := fun e => by rw [e] at hw; cases hw
        obtain ⟨d2, e2, hk2, hoth⟩ := wrOk_at hwr (mget_mem rfl hne0) hw
        rw [hk] at hk2; cases hk2
        cases y' with
        | nul z => exact od'.elim
        | nil z => exact od'.elim
        | «at» d' e' =>
          have hdd : d ≠ d' := fun e => by subst e; exact hoth c' e' (Ne.symm hne) hk'
          exact h.sep d d' x hdd hwd od od'
  · exact Nat.lt_of_lt_of_le (h.glb g v hg).1 h.frm.size
  · rintro ⟨c, ch, hm, hw, o⟩
    obtain ⟨y, hk, hs⟩ := simM_mem hsim hm
    obtain ⟨h1, h2, h3⟩ := simC_sound h.ch hk hs
    have hmay : B.May g := by
      cases ch with
      | non => cases hw
      | ro sz n f => cases hw
      | own e sz n f =>
        obtain ⟨L, vs, j1, _, _, _, j5, _⟩ := h1
        obtain ⟨L2, j8, j9⟩ := o
        rw [j1] at j8; cases j8
        exact (j5 g j9).2
      | box t l =>
        obtain ⟨L, vs, j1, _, _, _, _, _, j7⟩ := h1
        obtain ⟨L2, j8, j9⟩ := o
        rw [j1] at j8; cases j8
        rw [j9] at j7
        exact j7
    obtain ⟨k1, k2, _⟩ := h.glb g v hg
    rcases hmay with j7 | j7
    · omega
    · exact k2 j7
  · rcases simM_get hsim c with hn | ⟨y, hk, hs⟩
    · rw [hn] at o; exact o.elim
    · rw [kAt_eq] at hk
      have hlt : c < k.length := (List.getElem?_eq_some_iff.1 hk).1
      simp only [kLoc, List.length_map] at hc
      omega
end
end Go.Proofs.Ytdabahipeepheaa.Vc

namespace Go.Proofs.Ytdabahipeepheaa.Vc
open Go Go.RowKit

section
variable {B B0 : Bs} {ρ ρ1 ρ' : List Loc} {m m' mem : Mem} {w w' : World} {k : List Kp} {n0 n b : Nat}

theorem occ_ren {c d x : Nat} {L : Loc} {ch : Ch} (h1 : ρ1[c]? = some L) (h2 : ρ'[d]? = some L) (o : Occ ρ' d (renC k n0 b ch) x) : Occ ρ1 c ch x := by
  cases ch with
  | non => exact o
  | ro sz n f =>
    obtain ⟨hn, L', hL, hb⟩ := o
    rw [h2] at hL; cases hL
    exact ⟨hn, L, h1, hb⟩
  | own e sz n f =>
    obtain ⟨L', hL, hb⟩ := o
    rw [h2] at hL; cases hL
    exact ⟨L, h1, hb⟩
  | box t l =>
    obtain ⟨L', hL, hb⟩ := o
    rw [h2] at hL; cases hL
    exact ⟨L, h1, hb⟩
theorem renC_wr {ch : Ch} (h : (renC k n0 b ch).wr = true) : ch.wr = true := by
  cases ch <;> first | exact h | rfl

/-- Each of the callee's chunks is one of the caller's, or lies nowhere. -/
def inK (b : Nat) : List Kp → Bool
  | [] => true
  | .at d _ :: r => Nat.blt d b && inK b r
  | .nul _ :: r => inK b r
  | .nil _ :: r => inK b r
theorem inK_get : ∀ {k : List Kp}, inK b k = true → ∀ {c d e}, kAt k c = some (.at d e) → d < b
  | [], _, c, d, e, hk => by simp [kAt] at hk
  | .at d' e' :: r, h, c, d, e, hk => by
    simp only [inK, Bool.and_eq_true] at h
    cases c with
    | zero => simp only [kAt] at hk; cases hk; exact blt_lt h.1
    | succ c => exact inK_get h.2 hk
  | .nil _ :: r, h, c, d, e, hk => by
    simp only [inK] at h
    cases c with
    | zero => simp only [kAt] at hk; cases hk
    | succ c => exact inK_get h hk
  | .nul _ :: r, h, c, d, e, hk => by
    simp only [inK] at h
    cases c with
    | zero => simp only [kAt] at hk; cases hk
    | succ c => exact inK_get h hk

/-- Behind the call. -/
theorem leave_msat (h : MSat B ρ m w) (hsim : simM k m mem) (hwr : wrOk k mem = true) (hin : inK b k = true) (hnk : k.length = n0)
    (h' : MSat ⟨w, calleeX ρ k mem, kLoc ρ k, B.glob⟩ ρ1 m' w') (hn : ρ1.length = n) (hb : ρ.length = b) :
    Ext ρ (ρ ++ ρ1.drop n0) ∧ (ρ ++ ρ1.drop n0).length = b + (n - n0) ∧ Fits k n0 b ρ1 (ρ ++ ρ1.drop n0) ∧ MSat B (ρ ++ ρ1.drop n0) (newM k n0 b m' n0 b (n - n0) (wrM k n0 b m' mem m)) w' := by
  have e := Ext.app ρ (ρ1.drop n0)
  have hlen : (kLoc ρ k).length = n0 := by rw [kLoc_len, hnk]
  have newloc : ∀ c, n0 ≤ c → (ρ ++ ρ1.drop n0)[b + (c - n0)]? = ρ1[c]? := by
    intro c hc
    rw [List.getElem?_append_right (by omega), List.getElem?_drop]
    congr 1; omega
  have old : ∀ {c d e'}, kAt k c = some (.at d e') → ∃ L', ρ[d]? = some L' ∧ ρ1[c]? = some (L'.shift e') := by
    intro c d e' hk
    have hlt : d < ρ.length := by rw [hb]; exact inK_get hin hk
    refine ⟨_, List.getElem?_eq_getElem hlt, ?_⟩
    exact h'.ext c _ (kLoc_at hk (List.getElem?_eq_getElem hlt))
  have fits : Fits k n0 b ρ1 (ρ ++ ρ1.drop n0) := by
    intro c L hL d e' hk
    unfold kAll at hk
    cases hc : Nat.blt c n0 with
    | true =>
      rw [hc] at hk
      obtain ⟨L', hL', h1⟩ := old hk
      rw [hL] at h1; cases h1
      exact ⟨L', e d L' hL', rfl⟩
    | false =>
      rw [hc] at hk
      simp only [cond_false, Option.some.injEq, Kp.at.injEq] at hk
      obtain ⟨rfl, rfl⟩ := hk
      have hge : n0 ≤ c := by
        rcases Nat.lt_or_ge c n0 with h | h
        · have : Nat.blt c n0 = true := by simpa [Nat.blt_eq] using h
          rw [hc] at this; cases this
        · exact h
      exact ⟨L, by rw [newloc c hge]; exact hL, (Loc.shift_zero L).symm⟩
  have hn0 : n0 ≤ n := by
    rcases Nat.eq_zero_or_pos n0 with h0 | h0
    · omega
    · have hlt : n0 - 1 < (kLoc ρ k).length := by omega
      have := h'.ext (n0 - 1) _ (List.getElem?_eq_getElem hlt)
      have := (List.getElem?_eq_some_iff.1 this).1
      omega
  refine ⟨e, by simp; omega, fits, ?_⟩
  -- a chunk that was handed over to be written, as its caller holds it
  have wold : ∀ {c ch d e'}, (c, ch) ∈ mem → ch.wr = true → kAt k c = some (.at d e') → e' = 0 ∧ (mget m d).wr = true ∧ (∀ t l, ch = .box t l → ∃ t' l', mget m d = .box t' l') ∧ (∀ t sz n f, ch = .own t sz n f → ∃ t' sz' n' f', mget m d = .own t' sz' n' f') ∧ ∀ x, Occ (kLoc ρ k) c ch x → Occ ρ d (mget m d) x := by
    intro c ch d e' hm hw hk
    obtain ⟨y, hk2, hs⟩ := simM_mem hsim hm
    rw [hk] at hk2; cases hk2
    obtain ⟨_, q2, q3⟩ := simC_sound h.ch hk hs
    have hwd : (mget m d).wr = true := by
      rcases q3 hw with ⟨d2, e2, he, hw2⟩ | ⟨z, he⟩
      · cases he; exact hw2
      · cases he
    unfold simC at hs
    cases ch with
    | non => cases hw
    | ro sz n f => cases hw
    | own t sz n f =>
      simp only at hs
      split at hs
      · rename_i t' sz' n' f' hmd
        refine ⟨?_, hwd, fun _ _ h => (by cases h), fun _ _ _ _ _ => ⟨t', sz', n', f', hmd⟩, fun x o => q2 x o⟩
        cases hbb : (Nat.beq t t' && Nat.beq sz sz' && Nat.beq e' 0) with
        | false => rw [hbb] at hs; exact hs.elim
        | true => simp only [Bool.and_eq_true] at hbb; exact Nat.eq_of_beq_eq_true hbb.2
      · exact hs.elim
    | box t l =>
      simp only at hs
      split at hs
      · rename_i t' l' hmd
        refine ⟨?_, hwd, fun _ _ _ => ⟨t', l', hmd⟩, fun _ _ _ _ h => (by cases h), fun x o => q2 x o⟩
        cases hbb : (Nat.beq t t' && Nat.beq e' 0) with
        | false => rw [hbb] at hs; exact hs.elim
        | true => simp only [Bool.and_eq_true] at hbb; exact Nat.eq_of_beq_eq_true hbb.2
      · exact hs.elim
  -- what stays
  have stay : ∀ x, x < w.heap.size → ¬ calleeX ρ k mem x → w'.heap[x]? = w.heap[x]? := fun x hx hnx => h'.frm.block x hx hnx
  have xocc : ∀ x, calleeX ρ k mem x → ∃ c d ch, (c, ch) ∈ mem ∧ ch.wr = true ∧ kAt k c = some (.at d 0) ∧ (mget m d).wr = true ∧ Occ ρ d (mget m d) x := by
    rintro x ⟨c, ch, hm, hw, o⟩
    obtain ⟨d, e', hk, _⟩ := wrOk_at hwr hm hw
    obtain ⟨rfl, hwd, _, _, ho⟩ := wold hm hw hk
    exact ⟨c, d, ch, hm, hw, hk, hwd, ho x o⟩
  -- the chunks one by one
  have gnew : ∀ d, b ≤ d → d < b + (n - n0) → mget (newM k n0 b m' n0 b (n - n0) (wrM k n0 b m' mem m)) d = renC k n0 b (mget m' (n0 + (d - b))) := by
    intro d h1 h2; rw [newM_get, if_pos ⟨h1, h2⟩]
  have gold : ∀ d, ¬ (b ≤ d ∧ d < b + (n - n0)) → mget (newM k n0 b m' n0 b (n - n0) (wrM k n0 b m' mem m)) d = mget (wrM k n0 b m' mem m) d := by
    intro d h1; rw [newM_get, if_neg h1]
  -- an old chunk: it holds; it lies where it lay; it is one that was handed over (then it is what the callee left there), or none of those
  have oldch : ∀ d, ChSat B (ρ ++ ρ1.drop n0) w' d (mget (wrM k n0 b m' mem m) d) ∧ (∀ x, Occ (ρ ++ ρ1.drop n0) d (mget (wrM k n0 b m' mem m) d) x → Occ ρ d (mget m d) x) ∧
      ((mget (wrM k n0 b m' mem m) d).wr = true → (mget m d).wr = true) ∧
      (∀ c ch, (c, ch) ∈ mem → ch.wr = true → kAt k c = some (.at d 0) → ∀ x, Occ (ρ ++ ρ1.drop n0) d (mget (wrM k n0 b m' mem m) d) x → Occ ρ1 c (mget m' c) x ∧ (mget m' c).wr = true) := by
    intro d
    rcases wrM_get (k := k) (n0 := n0) (b := b) (m' := m') m d mem with ⟨c, ch, e', hm, hw, hk, hg⟩ | ⟨hno, hg⟩
    · rw [hg]
      obtain ⟨rfl, hwd, hbx, how, ho⟩ := wold hm hw hk
      have same : ∀ c' ch', (c', ch') ∈ mem → ch'.wr = true → kAt k c' = some (.at d 0) → c' = c := by
        intro c' ch' hm' hw' hk'
        obtain ⟨d2, e2, hk2, hoth⟩ := wrOk_at hwr hm hw
        rw [hk] at hk2; cases hk2
        rcases Nat.decEq c' c with hne | he
        · exact absurd hk' (hoth c' 0 hne)
        · exact he
      have hc := h'.ch c
      obtain ⟨L', hL', hL1⟩ := old hk
      rw [Loc.shift_zero] at hL1
      have hd := h.ch d
      cases hch : mget m' c with
      | box t2 l2 =>
        cases ch with
        | non => cases hw
        | ro sz q f => cases hw
        | own t sz q f => exact ⟨trivial, fun x o => o.elim, fun hw => (by cases hw), fun _ _ _ _ _ x o => o.elim⟩
        | box t l =>
          obtain ⟨t', l', hmd⟩ := hbx t l rfl
          rw [hch] at hc
          rw [hmd] at hd
          obtain ⟨L, vs, k1, k2, k3, k4, k5, k6, _⟩ := hc
          rw [hL1] at k1; cases k1
          obtain ⟨L2, us, j1, j2, j3, j4, j5, j6, j7⟩ := hd
          rw [hL'] at j1; cases j1
          refine ⟨⟨L', vs, e d L' hL', k2, by have q1 := k5.length; have q2 := (renL1_sound fits k5).length; omega, k4, renL1_sound fits k5, k6, j7⟩, fun x o => ?_, fun _ => hwd, fun c' ch' hm' hw' hk' x o => ?_⟩
          · obtain ⟨L3, h3, h4⟩ := o
            rw [e d L' hL'] at h3; cases h3
            rw [hmd]
            exact ⟨L', hL', h4⟩
          · have := same c' ch' hm' hw' hk'
            subst this
            rw [hch]
            obtain ⟨L3, h3, h4⟩ := o
            rw [e d L' hL'] at h3; cases h3
            exact ⟨⟨L', hL1, h4⟩, rfl⟩
      | own t2 sz2 q2 f2 =>
        cases ch with
        | non => cases hw
        | ro sz q f => cases hw
        | box t l => exact ⟨trivial, fun x o => o.elim, fun hw => (by cases hw), fun _ _ _ _ _ x o => o.elim⟩
        | own t sz q f =>
          obtain ⟨t', sz', n', f', hmd⟩ := how t sz q f rfl
          rw [hch] at hc
          rw [hmd] at hd
          obtain ⟨L, vs, k1, k2, k3, k4, k5, k6, k7⟩ := hc
          rw [hL1] at k1; cases k1
          obtain ⟨L2, us, j1, j2, j3, j4, j5, j6, j7⟩ := hd
          rw [hL'] at j1; cases j1
          refine ⟨⟨L', vs, e d L' hL', k2, k3, k4, j5, k6, fun i hi => renL1_sound fits (k7 i hi)⟩, fun x o => ?_, fun _ => hwd, fun c' ch' hm' hw' hk' x o => ?_⟩
          · obtain ⟨L3, h3, h4⟩ := o
            rw [e d L' hL'] at h3; cases h3
            rw [hmd]
            exact ⟨L', hL', h4⟩
          · have := same c' ch' hm' hw' hk'
            subst this
            rw [hch]
            obtain ⟨L3, h3, h4⟩ := o
            rw [e d L' hL'] at h3; cases h3
            exact ⟨⟨L', hL1, h4⟩, rfl⟩
      | non => cases ch <;> exact ⟨trivial, fun x o => o.elim, fun hw => (by cases hw), fun _ _ _ _ _ x o => o.elim⟩
      | ro sz q f => cases ch <;> exact ⟨trivial, fun x o => o.elim, fun hw => (by cases hw), fun _ _ _ _ _ x o => o.elim⟩
    · rw [hg]
      have hd := h.ch d
      have back : ∀ x, Occ (ρ ++ ρ1.drop n0) d (mget m d) x → Occ ρ d (mget m d) x := by
        intro x o
        rcases hd.loc with hn | ⟨L, hL⟩
        · rw [hn] at o; exact o.elim
        · exact o.back e hL
      refine ⟨(hd.keep (fun x o => stay x (h.occ_lt o) (fun hx => ?_)) h'.frm.size).mono e, back, fun hw => hw, fun c ch hm hw hk => absurd hk (hno c ch 0 hm hw)⟩
      obtain ⟨c, d', ch, hm, hw, hk, hwd, o'⟩ := xocc x hx
      have hdd : d' ≠ d := fun he => by subst he; exact hno c ch 0 hm hw hk
      exact h.sep d' d x hdd hwd o' o
  have newfr : ∀ c, n0 ≤ c → ∀ x, Occ ρ1 c (mget m' c) x → w.heap.size ≤ x ∨ calleeX ρ k mem x := fun c hc x o => h'.fresh c x (by rw [hlen]; exact hc) o
  have may : ∀ x, (w.heap.size ≤ x ∨ calleeX ρ k mem x) → B.May x := by
    intro x hx
    rcases hx with hx | hx
    · exact .inl (Nat.le_trans h.frm.size hx)
    · obtain ⟨c, d, ch, hm, hw, hk, hwd, o⟩ := xocc x hx
      have hd := h.ch d
      cases hmd : mget m d with
      | non => rw [hmd] at hwd; cases hwd
      | ro sz q f => rw [hmd] at hwd; cases hwd
      | own t sz q f =>
        rw [hmd] at hd o
        obtain ⟨L, vs, j1, _, _, _, j5, _⟩ := hd
        obtain ⟨L2, j8, j9⟩ := o
        rw [j1] at j8; cases j8
        exact (j5 x j9).2
      | box t l =>
        rw [hmd] at hd o
        obtain ⟨L, vs, j1, _, _, _, _, _, j7⟩ := hd
        obtain ⟨L2, j8, j9⟩ := o
        rw [j1] at j8; cases j8
        rw [← j9]; exact j7
  have newch : ∀ c, n0 ≤ c → ChSat B (ρ ++ ρ1.drop n0) w' (b + (c - n0)) (renC k n0 b (mget m' c)) ∧ (∀ x, Occ (ρ ++ ρ1.drop n0) (b + (c - n0)) (renC k n0 b (mget m' c)) x → Occ ρ1 c (mget m' c) x) := by
    intro c hc
    have hch := h'.ch c
    have hfr := newfr c hc
    cases hm : mget m' c with
    | non => exact ⟨trivial, fun x o => o.elim⟩
    | ro sz q f =>
      rw [hm] at hch
      obtain ⟨L, h1, h2, h3, h4⟩ := hch
      have hl : (ρ ++ ρ1.drop n0)[b + (c - n0)]? = some L := by rw [newloc c hc]; exact h1
      refine ⟨⟨L, hl, h2, h3, fun i hi => ?_⟩, fun x o => occ_ren h1 hl o⟩
      obtain ⟨vs, r1, r2⟩ := h4 i hi
      exact ⟨vs, renL1_sound fits r1, r2⟩
    | own t sz q f =>
      rw [hm] at hch
      obtain ⟨L, vs, h1, h2, h3, h4, h5, h6, h7⟩ := hch
      have hl : (ρ ++ ρ1.drop n0)[b + (c - n0)]? = some L := by rw [newloc c hc]; exact h1
      refine ⟨⟨L, vs, hl, h2, h3, h4, fun x hx => ⟨(h5 x hx).1, may x (hfr x ?_)⟩, h6, fun i hi => renL1_sound fits (h7 i hi)⟩, fun x o => occ_ren h1 hl o⟩
      rw [hm]; exact ⟨L, h1, hx⟩
    | box t l =>
      rw [hm] at hch
      obtain ⟨L, vs, h1, h2, h3, h4, h5, h6, _⟩ := hch
      have hl : (ρ ++ ρ1.drop n0)[b + (c - n0)]? = some L := by rw [newloc c hc]; exact h1
      refine ⟨⟨L, vs, hl, h2, by have q1 := h5.length; have q2 := (renL1_sound fits h5).length; omega, h4, renL1_sound fits h5, h6, may _ (hfr L.blk ?_)⟩, fun x o => occ_ren h1 hl o⟩
      rw [hm]; exact ⟨L, h1, rfl⟩
  have split : ∀ d, (b ≤ d ∧ d < b + (n - n0)) → ∃ c, n0 ≤ c ∧ d = b + (c - n0) ∧ n0 + (d - b) = c := fun d hd => ⟨n0 + (d - b), by omega, by omega, rfl⟩
  -- a new chunk and an old one lie apart
  have apart : ∀ c, n0 ≤ c → ∀ d x, ((renC k n0 b (mget m' c)).wr = true ∨ (mget (wrM k n0 b m' mem m) d).wr = true) → Occ (ρ ++ ρ1.drop n0) (b + (c - n0)) (renC k n0 b (mget m' c)) x → Occ (ρ ++ ρ1.drop n0) d (mget (wrM k n0 b m' mem m) d) x → False := by
    intro c hc d x hw o o'
    have o1 := (newch c hc).2 x o
    obtain ⟨_, q2, q3, q4⟩ := oldch d
    have o2 := q2 x o'
    rcases newfr c hc x o1 with hx | hx
    · have := h.occ_lt o2; omega
    · obtain ⟨c0, d0, ch0, hm0, hw0, hk0, hwd0, od0⟩ := xocc x hx
      by_cases hd : d0 = d
      · subst hd
        obtain ⟨o3, hw3⟩ := q4 c0 ch0 hm0 hw0 hk0 x o'
        have hlt : c0 < n0 := by
          rw [kAt_eq] at hk0
          have := (List.getElem?_eq_some_iff.1 hk0).1
          omega
        exact h'.sep c0 c x (by omega) hw3 o3 o1
      · exact h.sep d0 d x hd hwd0 od0 o2
  refine ⟨fun d => ?_, fun d d' x hne hw o o' => ?_, ?_, h.ext.trans e, h.glb, fun d x hd o => ?_⟩
  · by_cases hd : b ≤ d ∧ d < b + (n - n0)
    · obtain ⟨c, hc, rfl, hc2⟩ := split d hd
      rw [gnew _ hd.1 hd.2, hc2]
      exact (newch c hc).1
    · rw [gold d hd]; exact (oldch d).1
  · by_cases hd : b ≤ d ∧ d < b + (n - n0)
    · obtain ⟨c, hc, rfl, hc2⟩ := split d hd
      rw [gnew _ hd.1 hd.2, hc2] at hw o
      by_cases hd' : b ≤ d' ∧ d' < b + (n - n0)
      · obtain ⟨c', hc', rfl, hc2'⟩ := split d' hd'
        rw [gnew _ hd'.1 hd'.2, hc2'] at o'
        exact h'.sep c c' x (fun e => hne (by rw [e])) (renC_wr hw) ((newch c hc).2 x o) ((newch c' hc').2 x o')
      · rw [gold d' hd'] at o'
        exact apart c hc d' x (.inl hw) o o'
    · rw [gold d hd] at hw o
      by_cases hd' : b ≤ d' ∧ d' < b + (n - n0)
      · obtain ⟨c', hc', rfl, hc2'⟩ := split d' hd'
        rw [gnew _ hd'.1 hd'.2, hc2'] at o'
        exact apart c' hc' d x (.inr hw) o' o
      · rw [gold d' hd'] at o'
        exact h.sep d d' x hne ((oldch d).2.2.1 hw) ((oldch d).2.1 x o) ((oldch d').2.1 x o')
  · refine h.frm.step h'.frm.os h'.frm.tape h'.frm.output h'.frm.size (fun x hx hnx => stay x (Nat.lt_of_lt_of_le hx h.frm.size) (fun hX => ?_))
    rcases may x (.inr hX) with j7 | j7
    · omega
    · exact hnx j7
  · by_cases hd2 : b ≤ d ∧ d < b + (n - n0)
    · obtain ⟨c, hc, rfl, hc2⟩ := split d hd2
      rw [gnew _ hd2.1 hd2.2, hc2] at o
      exact may x (newfr c hc x ((newch c hc).2 x o))
    · rw [gold d hd2] at o
      exact h.fresh d x hd ((oldch d).2.1 x o)

theorem klen_eq {k : List Kp} {n : Nat} (h : Nat.beq k.length n = true) : k.length = n := Nat.eq_of_beq_eq_true h

/-- What a call owes its callee's contract; what its caller goes on with. -/
structure CallOk (k : List Kp) (svs : List SV) (s : St) (args : List SV) (mem : Mem) (nx : Nat) : Prop where
  hargs : simL2 k s.mem args svs
  hmem : simM k s.mem mem
  hwr : wrOk k mem = true
  hin : inK s.nx k = true
  hlen : Nat.beq k.length nx = true
theorem call_rule {Γ : Cx} {g : Nat} {args svs : List SV} {nx : Nat} {Q : SV → Mem → Nat → Prop} {s : St} {K : SV → St → Prop} (k : List Kp) {G : List (Nat × Value)} (hs : Con Γ.P G g args mem nx Q) (hG : Γ.B.glob = G) (hc : CallOk k svs s args mem nx)
    (hK : ∀ x m' n, Q x m' n → fnat s.nx fun b => fmem (newM k nx b m' nx b (n - nx) (wrM k nx b m' mem s.mem)) fun M => fnat (b + (n - nx)) fun b1 => K (ren3 k nx b x) ⟨s.fr, M, b1⟩) : CallP Γ g svs s K := by
  refine ⟨hs.1, fun ρ a w vs H hrel => ?_⟩
  have hlen := Nat.eq_of_beq_eq_true hc.hlen
  refine (hs.2 ⟨w, calleeX ρ k mem, kLoc ρ k, Γ.B.glob⟩ w vs rfl hG (by rw [kLoc_len]; exact hlen) (enter_msat H.mem hc.hmem hc.hwr) (simL2_sound H.mem.ch hc.hargs hrel)).mono ?_
  rintro e w' ⟨v, x, m', n, ρ1, rfl, hq, hn, hx, hm⟩
  obtain ⟨h1, h2, h3, h4⟩ := leave_msat H.mem hc.hmem hc.hwr (by rw [H.nx]; exact hc.hin) hlen hm hn rfl
  rw [H.nx] at h2 h3 h4
  have hk := hK x m' n hq
  simp only [fnat_eq, fmem_eq] at hk
  refine ⟨v, _, _, _, rfl, h1, ren3_sound h3 hx, hk, ⟨h2, fun t => (H.fr t).mono h1, H.size, H.dfr, h4⟩⟩
end
end Go.Proofs.Ytdabahipeepheaa.Vc

namespace Go.Proofs.Ytdabahipeepheaa.Vc
open Go Go.RowKit

theorem drop_get {α : Type} (d : α) (s : List α) (k : Nat) (h : k < s.length) : s.drop k = s.getD k d :: s.drop (k + 1) := by
  rw [List.drop_eq_getElem_cons h]; simp [h]

/-- A function of plain values that makes memory at the most. -/
theorem con_plain {P : Program} {G : List (Nat × Value)} {g : Nat} (hf : Fun P g) {args : List Value} {v : Value}
    (h : ∀ w : World, (∀ (k : Nat) (x : Value), (k, x) ∈ G → gAt w k x) → Calls P g args.toArray w fun e w' => e = .returned v ∧ Below w.heap.size w w') : Con P G g (args.map .v) [] 0 (retV 0 (.v v)) := by
  refine ⟨hf, fun B w vs hw hG hn hms hrel => ?_⟩
  rw [RelL.plain] at hrel
  subst hrel
  refine (h w fun k x hm => hms.frm.glb hms.glb (by rw [hG]; exact hm)).mono ?_
  rintro e w' ⟨rfl, hb⟩
  exact ⟨v, .v v, [], 0, B.r0, rfl, ⟨rfl, rfl, rfl⟩, hn, by simp only [Rel], hms.below hb⟩

/-- A contract that knows of fewer variables. -/
theorem con_sub {P : Program} {G G' : List (Nat × Value)} {g : Nat} {args : List SV} {mem : Mem} {nx : Nat} {Q : SV → Mem → Nat → Prop} (h : Con P G g args mem nx Q) (hs : ∀ x ∈ G, x ∈ G') : Con P G' g args mem nx Q := by
  refine ⟨h.1, fun B w vs h1 h2 h3 h4 h5 => ?_⟩
  have hm : MSat ⟨B.w0, B.X, B.r0, G⟩ B.r0 mem w := ⟨h4.ch, h4.sep, ⟨h4.frm.os, h4.frm.tape, h4.frm.output, h4.frm.size, h4.frm.block⟩, h4.ext, fun k x hx => h4.glb k x (by rw [h2]; exact hs _ hx), h4.fresh⟩
  refine (h.2 ⟨B.w0, B.X, B.r0, G⟩ w vs h1 rfl h3 hm h5).mono ?_
  rintro e w' ⟨v, x, m', n, ρ', he, hq, hl, hr, hms⟩
  exact ⟨v, x, m', n, ρ', he, hq, hl, hr, ⟨hms.ch, hms.sep, ⟨hms.frm.os, hms.frm.tape, hms.frm.output, hms.frm.size, hms.frm.block⟩, hms.ext, h4.glb, hms.fresh⟩⟩

/-- '==' and '!=' of two structs or arrays, once it is known how the model finds them. -/
theorem ext_agg {P : Program} {s : St} {T T2 : Nat} {x y : Operand} {l r : List SV} {vl vr : List Value} {b : Bool} {dst : Option Nat} {ty : TypeId} {pos : String} {after : Array Edge} {guard : Option (Nat × Bool)} {K : SV → Prop}
    (hg : P.eqGuardType P.depth T = false) (he : ∀ w, (Op.equalIn 10000 T (.agg vl.toArray) (.agg vr.toArray)).run P w = .ok b w) (hx : ev s x = .a l) (hy : ev s y = .a r) (hl : l = vl.map .v) (hr : r = vr.map .v) (hk : K (.v (.bool b))) :
    ExtV P s ⟨dst, .binOp .eql T x y T2, ty, pos, after, guard⟩ K := by
  intro B N ρ a w H
  have h1 := H.ev x
  have h2 := H.ev y
  rw [hx, hl] at h1
  rw [hy, hr] at h2
  obtain ⟨u1, e1, q1, _⟩ := rel_a h1
  obtain ⟨u2, e2, q2, _⟩ := rel_a h2
  rw [RelL.plain] at q1 q2
  subst q1 q2
  refine good_val (q := do eqGuard .eql T x y (a.eval x) (a.eval y); binOp .eql T (a.eval x) (a.eval y)) rfl (v := .bool b) ?_ (by simp only [Rel]) hk
  rw [e1, e2]
  simp only [Sem.run_bind, run_eqGuard_agg w .eql T x y _ _ hg, Result.andThen_ok, run_eql_struct, he]
theorem ext_aggN {P : Program} {s : St} {T T2 : Nat} {x y : Operand} {l r : List SV} {vl vr : List Value} {b : Bool} {dst : Option Nat} {ty : TypeId} {pos : String} {after : Array Edge} {guard : Option (Nat × Bool)} {K : SV → Prop}
    (hg : P.eqGuardType P.depth T = false) (he : ∀ w, (Op.equalIn 10000 T (.agg vl.toArray) (.agg vr.toArray)).run P w = .ok b w) (hx : ev s x = .a l) (hy : ev s y = .a r) (hl : l = vl.map .v) (hr : r = vr.map .v) (hk : K (.v (.bool (!b)))) :
    ExtV P s ⟨dst, .binOp .neq T x y T2, ty, pos, after, guard⟩ K := by
  intro B N ρ a w H
  have h1 := H.ev x
  have h2 := H.ev y
  rw [hx, hl] at h1
  rw [hy, hr] at h2
  obtain ⟨u1, e1, q1, _⟩ := rel_a h1
  obtain ⟨u2, e2, q2, _⟩ := rel_a h2
  rw [RelL.plain] at q1 q2
  subst q1 q2
  refine good_val (q := do eqGuard .neq T x y (a.eval x) (a.eval y); binOp .neq T (a.eval x) (a.eval y)) rfl (v := .bool (!b)) ?_ (by simp only [Rel]) hk
  rw [e1, e2]
  simp only [Sem.run_bind, run_eqGuard_agg w .neq T x y _ _ hg, Result.andThen_ok, run_neq_struct, he]

theorem veq_refl (x : Value) : veq x x := by cases x <;> simp [veq, kB]; cases ‹IntKind› <;> rfl
theorem veq_of_eq {x y : Value} (h : x = y) : veq x y := h ▸ veq_refl x

theorem getD_app1 {α : Type} {d : α} {l r : List α} {j : Nat} (h : j < l.length) : (l ++ r).getD j d = l.getD j d := by
  simp [List.getElem?_append_left h]
theorem getD_app2 {α : Type} {d : α} {l r : List α} {j : Nat} : (l ++ r).getD (l.length + j) d = r.getD j d := by
  rw [List.getD_eq_getElem?_getD, List.getElem?_append_right (by omega), Nat.add_sub_cancel_left, List.getD_eq_getElem?_getD]
theorem getD_set1 {α : Type} {d : α} {l : List α} {i : Nat} {x : α} (h : i < l.length) : (l.set i x).getD i d = x := by
  simp [h]
theorem getD_set2 {α : Type} {d : α} {l : List α} {i j : Nat} {x : α} (h : j ≠ i) : (l.set i x).getD j d = l.getD j d := by
  simp [List.getElem?_set_ne (Ne.symm h)]
theorem lt0 {P : Nat → Prop} : ∀ i, i < 0 → P i := fun i h => absurd h (by omega)
theorem lt1 {P : Nat → Prop} (h0 : P 0) : ∀ i, i < 1 → P i
  | 0, _ => h0
  | i + 1, h => absurd h (by omega)
theorem lt2 {P : Nat → Prop} (h0 : P 0) (h1 : P 1) : ∀ i, i < 2 → P i
  | 0, _ => h0
  | 1, _ => h1
  | i + 2, h => absurd h (by omega)
theorem lt3 {P : Nat → Prop} (h0 : P 0) (h1 : P 1) (h2 : P 2) : ∀ i, i < 3 → P i
  | 0, _ => h0
  | 1, _ => h1
  | 2, _ => h2
  | i + 3, h => absurd h (by omega)
theorem lt4 {P : Nat → Prop} (h0 : P 0) (h1 : P 1) (h2 : P 2) (h3 : P 3) : ∀ i, i < 4 → P i
  | 0, _ => h0
  | 1, _ => h1
  | 2, _ => h2
  | 3, _ => h3
  | i + 4, h => absurd h (by omega)
theorem take_next {α : Type} (d : α) {a b : List α} {k : Nat} (h : a.take k = b.take k) (e : a.getD k d = b.getD k d) (ha : k < a.length) (hb : k < b.length) : a.take (k + 1) = b.take (k + 1) := by
  rw [List.take_succ_eq_append_getElem ha, List.take_succ_eq_append_getElem hb, h]
  simp [ha, hb] at e
  rw [e]
theorem take_all {α : Type} {a b : List α} {k : Nat} (h : a.take k = b.take k) (ha : a.length ≤ k) (hb : b.length ≤ k) : a = b := by
  rwa [List.take_of_length_le ha, List.take_of_length_le hb] at h
/-- An append of one element, and of many, to a list that is known. -/
theorem app1 {α : Type} (enc : α → List SV) (d : α) (l : List α) (c : α) {n i : Nat} {g : Nat → List SV} {K : (Nat → List SV) → Prop} (hn : n = l.length) (hg : g i = enc c) (hk : K fun j => enc ((l ++ [c]).getD j d)) :
    ∃ f' : Nat → List SV, (∀ j, j < n → f' j = enc (l.getD j d)) ∧ (∀ j, j < 1 → f' (n + j) = g (i + j)) ∧ K f' := by
  subst hn
  refine ⟨_, fun j hj => by rw [getD_app1 hj], fun j hj => ?_, hk⟩
  obtain rfl : j = 0 := by omega
  rw [getD_app2]; exact hg.symm
theorem appN {α : Type} (enc : α → List SV) (d : α) (l r : List α) {n m i : Nat} {g : Nat → List SV} {K : (Nat → List SV) → Prop} (hn : n = l.length) (hm : m = r.length) (hg : ∀ j, j < r.length → g (i + j) = enc (r.getD j d)) (hk : K fun j => enc ((l ++ r).getD j d)) :
    ∃ f' : Nat → List SV, (∀ j, j < n → f' j = enc (l.getD j d)) ∧ (∀ j, j < m → f' (n + j) = g (i + j)) ∧ K f' := by
  subst hn hm
  exact ⟨_, fun j hj => by rw [getD_app1 hj], fun j hj => by rw [getD_app2]; exact (hg j hj).symm, hk⟩
/-- The first append of all, to a nil slice. -/
theorem app0 {α : Type} (enc : α → List SV) (d : α) (r : List α) {m i : Nat} {g f : Nat → List SV} {K : (Nat → List SV) → Prop} (hm : m = r.length) (hg : ∀ j, j < r.length → g (i + j) = enc (r.getD j d)) (hk : K fun j => enc (r.getD j d)) :
    ∃ f' : Nat → List SV, (∀ j, j < 0 → f' j = f j) ∧ (∀ j, j < m → f' (0 + j) = g (i + j)) ∧ K f' := by
  subst hm
  exact ⟨_, fun j hj => absurd hj (by omega), fun j hj => by rw [Nat.zero_add]; exact (hg j hj).symm, hk⟩
theorem getD_seg {α : Type} {d : α} {l : List α} {i m j : Nat} (h : j < m) : ((l.drop i).take m).getD j d = l.getD (i + j) d := by
  rw [List.getD_eq_getElem?_getD, List.getElem?_take_of_lt h, List.getElem?_drop, List.getD_eq_getElem?_getD]
theorem seg_len {α : Type} {l : List α} {i m : Nat} (h : i + m ≤ l.length) : ((l.drop i).take m).length = m := by
  simp; omega
/-- The append of a piece of a list that is known. -/
theorem appS {α : Type} (enc : α → List SV) (d : α) (out l : List α) {n m i : Nat} {K : (Nat → List SV) → Prop} (hn : n = out.length) (_ : i + m ≤ l.length) (hk : K fun j => enc ((out ++ (l.drop i).take m).getD j d)) :
    ∃ f' : Nat → List SV, (∀ j, j < n → f' j = enc (out.getD j d)) ∧ (∀ j, j < m → f' (n + j) = enc (l.getD (i + j) d)) ∧ K f' := by
  subst hn
  exact ⟨_, fun j hj => by rw [getD_app1 hj], fun j hj => by rw [getD_app2, getD_seg hj], hk⟩
/-- A store into a list that is known. -/
theorem sto1 {α : Type} (enc : α → List SV) (d : α) (l : List α) (x : α) {n i : Nat} {q : List SV} {K : (Nat → List SV) → Prop} (hn : n = l.length) (hi : i < l.length) (hq : enc x = q) (hk : K fun j => enc ((l.set i x).getD j d)) :
    ∃ f' : Nat → List SV, f' i = q ∧ (∀ j, j < n → j ≠ i → f' j = enc (l.getD j d)) ∧ K f' := by
  subst hn
  exact ⟨_, by rw [getD_set1 hi]; exact hq, fun j _ hne => by rw [getD_set2 hne], hk⟩
/-- What the numbers' spellings come to. -/
theorem nm : (∀ n : Nat, (n : Int).toNat = n) ∧ (∀ n : Nat, 0 + n = n) ∧ (∀ n : Nat, n + 0 = n) := ⟨Int.toNat_natCast, Nat.zero_add, Nat.add_zero⟩
end Go.Proofs.Ytdabahipeepheaa.Vc

namespace Go.Proofs.Ytdabahipeepheaa.Vc
open Go Go.RowKit

def inL (c : Nat) : List Nat → Bool
  | [] => false
  | d :: r => bif Nat.beq c d then true else inL c r
theorem inL_mem : ∀ {c : Nat} {l : List Nat}, inL c l = true → c ∈ l
  | c, [], h => by cases h
  | c, d :: r, h => by
    simp only [inL] at h
    cases hb : Nat.beq c d with
    | true => have := Nat.eq_of_beq_eq_true hb; subst this; simp
    | false => rw [hb] at h; simp [inL_mem h]

/-- An operation that comes to the same value in every world that may be met: 'm0' is what was known at first, and nobody writes where it says 'ro'. -/
def vcEarly (tab : Tab) (m0 : Mem) (s : St) (o : Oper) (K : SV → Prop) : Prop :=
  match o.op with
  | .move x => K (ev s x)
  | .assign x => K (ev s x)
  | .extract x k => match ev s x with
    | .t l => match nth l k with | some y => K y | none => False
    | _ => False
  | .fieldAddr T x k => match ev s x with
    | .p c i d => match tget tab T with
      | some ti => match ti.d with
        | .st fs => match nthP fs k with
          | some (off, ty) => match tget tab ty with
            | some tj => bif Nat.beq tj.size 0 then False else K (.p c i (d + off))
            | none => False
          | none => False
        | _ => False
      | none => False
    | _ => False
  | .indexAddr T x y => match ev s x, ev s y with
    | .s c i n, .v (.int _ k) => match tget tab T with
      | some ti => match ti.d with
        | .sl e => match tget tab e with
          | some te => match mget m0 c with
            | .ro sz _ _ => bif Nat.beq sz te.size then (0 ≤ k ∧ k < (n : Int)) ∧ K (.p c (i + k.toNat) 0) else False
            | _ => False
          | none => False
        | _ => False
      | none => False
    | .p c i d, .v (.int _ k) => match tget tab T with
      | some ti => match ti.d with
        | .arr n e => match tget tab e with
          | some te => (0 ≤ k ∧ k < (n : Int)) ∧ K (.p c i (d + k.toNat * te.size))
          | none => False
        | _ => False
      | none => False
    | _, _ => False
  | .load T x => match ev s x with
    | .p c i d => match mget m0 c with
      | .ro _ n f => i < n ∧ frc (f i) (fun l => ldL tab T l d K)
      | _ => False
    | _ => False
  | .binOp op _ x y _ => match ev s x, ev s y with
    | .v (.int k a), .v (.int k' b) => bif kB k k' then vcInt op k a b K else False
    | _, _ => False
  | .index T x y => match ev s x, ev s y with
    | .v (.string b), .v (.int _ k) => match tget tab T with
      | some ti => match ti.d with
        | .str => (0 ≤ k ∧ k < (b.size : Int)) ∧ K (.v (.int .u8 (bt b k)))
        | _ => False
      | none => False
    | _, _ => False
  | _ => False

/-- What was known at first, and where nobody writes. -/
structure Bs.Rx (B : Bs) (m0 : Mem) : Prop where
  ch : ∀ c, ChSat B B.r0 B.w0 c (mget m0 c)
  ro : ∀ c sz n f L, mget m0 c = .ro sz n f → 0 < n → B.r0[c]? = some L → L.blk < B.w0.heap.size ∧ ¬ B.X L.blk

section
variable {P : Program} {tab : Tab} {B : Bs} {N : Nat} {ρ : List Loc} {s : St} {a : Act} {w : World} {K : SV → Prop}

theorem vcEarly_sound (ht : Tab.ok P tab) (H : Holds B N ρ s a w) {m0 : Mem} (hx : B.Rx m0) {o : Oper} (h : vcEarly tab m0 s o K) : ∃ v x, (∀ w', Frm B w' → (execOp a.eval o).run P w' = .ok (.value v) w') ∧ Rel ρ x v ∧ K x := by
  obtain ⟨dst, op, ty, pos, after, guard⟩ := o
  cases op with
  | move x => exact ⟨_, _, fun w' _ => by simp [execOp], H.ev x, h⟩
  | assign x => exact ⟨_, _, fun w' _ => by simp [execOp], H.ev x, h⟩
  | extract x k =>
    simp only [vcEarly] at h
    have hv := H.ev x
    split at h
    · rename_i l he
      rw [he] at hv
      obtain ⟨vs, hv, hr⟩ := rel_t hv
      split at h
      · rename_i y hn
        rw [nth_eq] at hn
        obtain ⟨v, hv2, hy⟩ := hr.get hn
        exact ⟨v, y, fun w' _ => by simp [execOp, Instr.extract, hv, hv2], hy, h⟩
      · exact h.elim
    · exact h.elim
  | fieldAddr T x k =>
    simp only [vcEarly] at h
    have hv := H.ev x
    split at h
    · rename_i c i d he
      rw [he] at hv
      obtain ⟨L, hL, hv⟩ := rel_p hv
      split at h
      · rename_i ti hT
        split at h
        · rename_i fs hfs
          split at h
          · rename_i off tt hn
            split at h
            · rename_i tj hj
              cases hb : Nat.beq tj.size 0 with
              | true => rw [hb] at h; exact h.elim
              | false =>
                rw [hb] at h
                obtain ⟨desc, hu, hd⟩ := tab_und ht hT
                rw [hfs] at hd
                obtain ⟨g, rfl, hg⟩ := hd
                rw [nthP_eq, ← hg, List.getElem?_map] at hn
                cases hf : g.toList[k]? with
                | none => rw [hf] at hn; simp at hn
                | some f =>
                  rw [hf] at hn
                  simp at hn
                  obtain ⟨rfl, rfl⟩ := hn
                  have hf' : g[k]? = some f := by simpa using hf
                  have hne : tj.size ≠ 0 := fun e => by rw [e] at hb; simp [Nat.beq] at hb
                  refine ⟨.pointer (some ⟨L.blk, L.off + i * L.sz + (d + f.offset), none⟩), _, fun w' _ => ?_, ?_, h⟩
                  · have hsz := tab_size ht hj w'
                    simp [execOp, hv, Instr.fieldAt, run_underlying hu, hf', Instr.sureAddr, fieldPlace, hsz, hne, Addr.add_lit, Nat.add_assoc]
                  · simp only [Rel]; exact ⟨L, hL, rfl⟩
            · exact h.elim
          · exact h.elim
        · exact h.elim
      · exact h.elim
    · exact h.elim
  | index T x y =>
    simp only [vcEarly] at h
    have hv := H.ev x
    have hu2 := H.ev y
    split at h
    · rename_i b kk k he he2
      rw [he] at hv
      rw [he2] at hu2
      have hv := rel_v hv
      have hu2 := rel_v hu2
      split at h
      · rename_i ti hT
        split at h
        · rename_i hd0
          obtain ⟨⟨h0, h1⟩, hk⟩ := h
          obtain ⟨desc, hu, hd⟩ := tab_und ht hT
          rw [hd0] at hd
          simp only [TD.ok] at hd
          subst hd
          exact ⟨.int .u8 (bt b k), _, fun w' _ => by simp [execOp, hv, hu2, Instr.index, run_underlying hu, asIntOf, h0, bt_get h0 h1, bt], by simp only [Rel], hk⟩
        · exact h.elim
      · exact h.elim
    · exact h.elim
  | indexAddr T x y =>
    simp only [vcEarly] at h
    have hv := H.ev x
    have hu := H.ev y
    split at h
    · rename_i c i n kk k he he2
      rw [he] at hv
      rw [he2] at hu
      obtain ⟨L, A, cap, hL, hv, hn, hc, hA⟩ := rel_s hv
      have hu2 := rel_v hu
      split at h
      · rename_i ti hT
        split at h
        · rename_i e hd0
          split at h
          · rename_i te he3
            have hch := hx.ch c
            split at h
            · rename_i sz nn f hm
              rw [hm] at hch
              cases hb : Nat.beq sz te.size with
              | false => rw [hb] at h; exact h.elim
              | true =>
                rw [hb] at h
                obtain ⟨⟨h0, h1⟩, hk⟩ := h
                have hs2 := Nat.eq_of_beq_eq_true hb
                obtain ⟨L', q1, q2, _⟩ := hch
                have := H.mem.ext c L' q1
                rw [hL] at this; cases this
                obtain ⟨desc, hud, hd⟩ := tab_und ht hT
                rw [hd0] at hd
                simp only [TD.ok] at hd
                subst hd
                refine ⟨.pointer (some ⟨L.blk, L.off + (i + k.toNat) * L.sz + 0, none⟩), _, fun w' _ => ?_, ?_, hk⟩
                · have hsz := tab_size ht he3 w'
                  have hAA := hA (by omega)
                  simp [execOp, hv, hu2, hAA, Instr.indexAt, run_underlying hud, asIntOf, h0, h1, hsz, Addr.add_lit, q2, hs2, Nat.add_mul, Nat.add_assoc]
                · simp only [Rel]; exact ⟨L, hL, rfl⟩
            · exact h.elim
          · exact h.elim
        · exact h.elim
      · exact h.elim
    · rename_i c i d kk k he he2
      rw [he] at hv
      rw [he2] at hu
      obtain ⟨L, hL, hv⟩ := rel_p hv
      have hu2 := rel_v hu
      split at h
      · rename_i ti hT
        split at h
        · rename_i n e hd0
          split at h
          · rename_i te he3
            obtain ⟨⟨h0, h1⟩, hk⟩ := h
            obtain ⟨desc, hud, hd⟩ := tab_und ht hT
            rw [hd0] at hd
            simp only [TD.ok] at hd
            subst hd
            refine ⟨.pointer (some ⟨L.blk, L.off + i * L.sz + (d + k.toNat * te.size), none⟩), _, fun w' _ => ?_, ?_, hk⟩
            · have hsz := tab_size ht he3 w'
              simp [execOp, hv, hu2, Instr.indexAt, run_underlying hud, asIntOf, h0, h1, hsz, Addr.add_lit, Instr.sureAddr, Nat.add_assoc]
            · simp only [Rel]; exact ⟨L, hL, rfl⟩
          · exact h.elim
        · exact h.elim
      · exact h.elim
    · exact h.elim
  | load T x =>
    simp only [vcEarly] at h
    have hv := H.ev x
    split at h
    · rename_i c i d he
      rw [he] at hv
      obtain ⟨L, hL, hv⟩ := rel_p hv
      have hch := hx.ch c
      split at h
      · rename_i sz n f hm
        rw [hm] at hch
        obtain ⟨hi, hk⟩ := h
        rw [frc_eq] at hk
        obtain ⟨L', h1, h2, h3, h4⟩ := hch
        have := H.mem.ext c L' h1
        rw [hL] at this; cases this
        obtain ⟨vs, r1, r2, r3, r4⟩ := h4 i hi
        obtain ⟨q1, q2⟩ := hx.ro c sz n f L hm (by omega) h1
        have hc0 : ∀ w', Frm B w' → ∀ j u, vs[j]? = some u → w'.cell? ⟨L.blk, L.off + i * L.sz + j, none⟩ = some u := by
          intro w' hw' j u hu
          rw [World.cell?_of_block (hw'.block _ q1 q2), h2]
          exact r4 j u hu
        obtain ⟨v, y, hrun, hy, hk'⟩ := ldL_sound2 ht hk (RelL.mono H.mem.ext _ _ r1) r3 L.blk (L.off + i * L.sz)
        exact ⟨v, y, fun w' hw' => by simp [execOp, hv, Instr.loadAt, Instr.sureAddr, hrun w' (hc0 w' hw')], hy, hk'⟩
      · exact h.elim
    · exact h.elim
  | binOp op T x y T2 =>
    simp only [vcEarly] at h
    have h1 := H.ev x
    have h2 := H.ev y
    split at h
    · rename_i k p k2 q he he2
      rw [he] at h1
      rw [he2] at h2
      cases hb : kB k k2 with
      | false => rw [hb] at h; exact h.elim
      | true =>
        rw [hb] at h
        have := kB_eq hb
        subst this
        obtain ⟨v, hr, hk⟩ := vcInt_sound (P := P) T x y h
        refine ⟨v, .v v, fun w' _ => ?_, by simp only [Rel], hk⟩
        have hq : execOp a.eval ⟨dst, .binOp op T x y T2, ty, pos, after, guard⟩ = (do pure (.value (← (do eqGuard op T x y (a.eval x) (a.eval y); binOp op T (a.eval x) (a.eval y))))) := rfl
        rw [hq]
        simp only [rel_v h1, rel_v h2]
        rw [Sem.run_bind, hr w']
        rfl
    · exact h.elim
  | _ => exact h.elim
end
end Go.Proofs.Ytdabahipeepheaa.Vc

namespace Go.Proofs.Ytdabahipeepheaa.Vc
open Go Go.RowKit

def opAt : List Oper → Nat → Option Oper
  | [], _ => none
  | x :: _, 0 => some x
  | _ :: r, n + 1 => opAt r n
theorem opAt_eq : ∀ (l : List Oper) (n : Nat), opAt l n = l[n]?
  | [], n => by simp [opAt]
  | x :: r, 0 => by simp [opAt]
  | x :: r, n + 1 => by simp [opAt, opAt_eq r n]
def vcMix (Γ : Cx) (m0 : Mem) (all : List Oper) : List (Nat × Bool) → St → (St → Prop) → Prop
  | [], s, K => K s
  | (k, e) :: r, s, K => match opAt all k with
    | none => False
    | some o => match e with
      | true => vcG all o s (fun s => vcEarly Γ.tab m0 s o fun x => put Γ.N s o.dst x fun s => vcMix Γ m0 all r s K) (fun s => put Γ.N s o.dst (.v (.tuple #[])) fun s => vcMix Γ m0 all r s K)
      | false => vcG all o s (fun s => vcOp Γ s o fun s => vcMix Γ m0 all r s K) (fun s => put Γ.N s o.dst (.v (.tuple #[])) fun s => vcMix Γ m0 all r s K)

theorem vcMix_sound {Γ : Cx} (ht : Tab.ok Γ.P Γ.tab) {m0 : Mem} (hx : Γ.B.Rx m0) {ops : Array Oper} {K : St → Prop} {Q : Exit → Act → World → Prop} (hK : ∀ s ρ a w, K s → Holds Γ.B Γ.N ρ s a w → Q .normal a w) :
    ∀ (l : List (Nat × Bool)) (s : St) (ρ : List Loc) (a : Act) (w : World), vcMix Γ m0 ops.toList l s K → Holds Γ.B Γ.N ρ s a w → wpMix Γ.P ops Q (Frm Γ.B) l a w
  | [], s, ρ, a, w, h, H => hK s ρ a w h H
  | (k, e) :: r, s, ρ, a, w, h, H => by
    simp only [vcMix] at h
    split at h
    · exact h.elim
    · rename_i o ho
      rw [opAt_eq] at ho
      have ho' : ops[k]? = some o := by simpa using ho
      cases e with
      | true =>
        simp only at h
        simp only [wpMix]
        rcases vcG_sound H h with ⟨hw, s', hk, H'⟩ | ⟨hw, s', hk, H'⟩
        · obtain ⟨v, x, hr, hx', hp⟩ := vcEarly_sound ht H' hx hk
          obtain ⟨s'', hk', H'', _, _⟩ := put_sound H' hx' hp
          exact ⟨o, v, ho', .inl ⟨hw, hr⟩, vcMix_sound ht hx hK r s'' ρ _ w hk' H''⟩
        · obtain ⟨s'', hk', H'', _, _⟩ := put_sound H' (v := undef) (by simp only [Rel]; rfl) hk
          exact ⟨o, undef, ho', .inr ⟨hw, rfl⟩, vcMix_sound ht hx hK r s'' ρ _ w hk' H''⟩
      | false =>
        simp only at h
        simp only [wpMix]
        unfold wpOpI Go.wpOp
        simp only [ho']
        rcases vcG_sound H h with ⟨hw, s', hk, H'⟩ | ⟨hw, s', hk, H'⟩
        · rw [if_pos hw]
          refine .inl (Oper.wp_mono (fun a' w' hh => ?_) (vcOp_sound ht H' hk))
          obtain ⟨s'', ρ', hk', H''⟩ := hh
          exact ⟨H''.mem.frm, vcMix_sound ht hx hK r s'' ρ' a' w' hk' H''⟩
        · rw [if_neg (by rw [hw]; simp)]
          obtain ⟨s'', hk', H'', _, _⟩ := put_sound H' (v := undef) (by simp only [Rel]; rfl) hk
          exact ⟨H''.mem.frm, vcMix_sound ht hx hK r s'' ρ _ w hk' H''⟩

/-- Variables that nobody writes for a while. -/
def roM : List Nat → Mem → Mem
  | [], m => m
  | c :: r, m => match mget m c with
    | .box _ l => (c, .ro l.length 1 fun _ => l) :: roM r m
    | _ => roM r m
def backM : List Nat → Mem → Mem → Mem
  | [], _, m => m
  | c :: r, old, m => match mget old c with
    | .box t l => (c, .box t l) :: backM r old m
    | _ => backM r old m
def roC (b : Bool) (x : Ch) : Ch := match x with
  | .box t l => match b with | true => .ro l.length 1 fun _ => l | false => .box t l
  | y => y
theorem inL_cons (d c : Nat) (r : List Nat) : inL d (c :: r) = (if d = c then true else inL d r) := by
  simp only [inL]
  by_cases h : d = c
  · subst h; simp [Nat.beq_refl]
  · rw [if_neg h]
    cases e : Nat.beq d c with
    | false => rfl
    | true => exact absurd (Nat.eq_of_beq_eq_true e) h
theorem mem_inL {c : Nat} : ∀ {bs : List Nat}, c ∈ bs → inL c bs = true
  | [], h => by simp at h
  | x :: r, h => by
    rw [inL_cons]
    by_cases hx : c = x
    · rw [if_pos hx]
    · rw [if_neg hx]; exact mem_inL (by simpa [hx] using h)
theorem roM_get (m : Mem) (d : Nat) : ∀ bs : List Nat, mget (roM bs m) d = roC (inL d bs) (mget m d)
  | [] => by simp only [roM, inL, roC]; cases mget m d <;> rfl
  | c :: r => by
    have ih := roM_get m d r
    rw [inL_cons]
    simp only [roM]
    by_cases h : d = c
    · subst h
      rw [if_pos rfl]
      cases hm : mget m d with
      | box t l => simp only; rw [mget_cons, if_pos rfl]; rfl
      | non => simp only; rw [ih, hm]; rfl
      | ro sz n f => simp only; rw [ih, hm]; rfl
      | own e sz n f => simp only; rw [ih, hm]; rfl
    · rw [if_neg h]
      cases hm : mget m c with
      | box t l => simp only; rw [mget_cons, if_neg (fun e => h e.symm)]; exact ih
      | non => exact ih
      | ro sz n f => exact ih
      | own e sz n f => exact ih
theorem backM_get (old m : Mem) (d : Nat) : ∀ bs : List Nat, mget (backM bs old m) d = (match mget old d with | .box t l => if inL d bs then .box t l else mget m d | _ => mget m d)
  | [] => by simp only [backM, inL]; cases mget old d <;> rfl
  | c :: r => by
    have ih := backM_get old m d r
    rw [inL_cons]
    simp only [backM]
    by_cases h : d = c
    · subst h
      rw [if_pos rfl]
      cases hm : mget old d with
      | box t l => simp only; rw [mget_cons, if_pos rfl]; rfl
      | non => rw [hm] at ih; simpa using ih
      | ro sz n f => rw [hm] at ih; simpa using ih
      | own e sz n f => rw [hm] at ih; simpa using ih
    · rw [if_neg h]
      cases hm : mget old c with
      | box t l => simp only; rw [mget_cons, if_neg (fun e => h e.symm)]; exact ih
      | non => exact ih
      | ro sz n f => exact ih
      | own e sz n f => exact ih

def allBox (m : Mem) (nx : Nat) : List Nat → Bool
  | [] => true
  | c :: r => Nat.blt c nx && (match mget m c with | .box .. => true | _ => false) && allBox m nx r
theorem allBox_mem {m : Mem} {nx : Nat} : ∀ {bs : List Nat}, allBox m nx bs = true → ∀ c ∈ bs, c < nx ∧ ∃ t l, mget m c = .box t l
  | [], _, c, hc => by simp at hc
  | d :: r, h, c, hc => by
    simp only [allBox, Bool.and_eq_true] at h
    rcases List.mem_cons.1 hc with rfl | hc
    · refine ⟨blt_lt h.1.1, ?_⟩
      have h2 := h.1.2
      split at h2
      · rename_i t l hm; exact ⟨t, l, hm⟩
      · cases h2
    · exact allBox_mem h.2 c hc
def kindP (old new : Ch) : Prop := match new with
  | .non => True
  | .ro _ n _ => match old with | .ro _ n' _ => n = n' | _ => False
  | .own .. => match old with | .own .. => True | _ => False
  | .box .. => match old with | .box .. => True | _ => False
def backOk (bs : List Nat) (old new : Mem) : Nat → Prop
  | 0 => True
  | c + 1 => (match inL c bs with | true => True | false => kindP (mget old c) (mget new c)) ∧ backOk bs old new c
theorem backOk_get {bs : List Nat} {old new : Mem} : ∀ {n : Nat}, backOk bs old new n → ∀ c, c < n → inL c bs = false → kindP (mget old c) (mget new c)
  | 0, _, c, hc, _ => by omega
  | n + 1, h, c, hc, hb => by
    obtain ⟨h1, h2⟩ := h
    by_cases e : c = n
    · subst e; rw [hb] at h1; exact h1
    · exact backOk_get h2 c (by omega) hb

theorem kindP_occ {ρ ρ' : List Loc} (e : Ext ρ ρ') {c b : Nat} {old new : Ch} (hc : c < ρ.length) (hk : kindP old new) (o : Occ ρ' c new b) : Occ ρ c old b ∧ (new.wr = true → old.wr = true) := by
  obtain ⟨L, hL⟩ : ∃ L, ρ[c]? = some L := ⟨_, List.getElem?_eq_getElem hc⟩
  have hL' := e c L hL
  cases new with
  | non => exact o.elim
  | ro sz n f =>
    cases old with
    | ro sz' n' f' =>
      have : n = n' := hk
      subst this
      obtain ⟨hn, L2, h2, hb⟩ := o
      rw [hL'] at h2; cases h2
      exact ⟨⟨hn, L, hL, hb⟩, fun h => by cases h⟩
    | _ => exact hk.elim
  | own t sz n f =>
    cases old with
    | own t' sz' n' f' =>
      obtain ⟨L2, h2, hb⟩ := o
      rw [hL'] at h2; cases h2
      exact ⟨⟨L, hL, hb⟩, fun _ => rfl⟩
    | _ => exact hk.elim
  | box t l =>
    cases old with
    | box t' l' =>
      obtain ⟨L2, h2, hb⟩ := o
      rw [hL'] at h2; cases h2
      exact ⟨⟨L, hL, hb⟩, fun _ => rfl⟩
    | _ => exact hk.elim

theorem roC_wr {b : Bool} {x : Ch} (h : (roC b x).wr = true) : roC b x = x ∧ x.wr = true := by
  cases x with
  | box t l => cases b with
    | true => cases h
    | false => exact ⟨rfl, rfl⟩
  | non => cases h
  | ro => cases h
  | own => exact ⟨rfl, rfl⟩
theorem roC_occ {ρ : List Loc} {c d : Nat} {b : Bool} {x : Ch} (h : Occ ρ c (roC b x) d) : Occ ρ c x d := by
  cases x with
  | box t l => cases b with
    | true => exact h.2
    | false => exact h
  | non => exact h
  | ro => exact h
  | own => exact h
theorem wr_may {B : Bs} {ρ : List Loc} {m : Mem} {w : World} (h : MSat B ρ m w) {c b : Nat} (hw : (mget m c).wr = true) (o : Occ ρ c (mget m c) b) : B.May b := by
  have hd := h.ch c
  cases hm : mget m c with
  | non => rw [hm] at hw; cases hw
  | ro sz n f => rw [hm] at hw; cases hw
  | own t sz n f =>
    rw [hm] at hd o
    obtain ⟨L, vs, j1, _, _, _, j5, _⟩ := hd
    obtain ⟨L2, j8, j9⟩ := o
    rw [j1] at j8; cases j8
    exact (j5 b j9).2
  | box t l =>
    rw [hm] at hd o
    obtain ⟨L, vs, j1, _, _, _, _, _, j7⟩ := hd
    obtain ⟨L2, j8, j9⟩ := o
    rw [j1] at j8; cases j8
    rw [← j9]; exact j7

def mixX (ρ : List Loc) (m : Mem) (x : Nat) : Prop := ∃ c, (mget m c).wr = true ∧ Occ ρ c (mget m c) x
def mixB (B : Bs) (ρ : List Loc) (m : Mem) (w : World) : Bs := ⟨w, mixX ρ m, ρ, B.glob⟩

theorem mix_enter {B : Bs} {ρ : List Loc} {m : Mem} {w : World} (h : MSat B ρ m w) (bs : List Nat) : MSat (mixB B ρ (roM bs m) w) ρ (roM bs m) w := by
  have own : ∀ c, (mget (roM bs m) c).wr = true → mget (roM bs m) c = mget m c ∧ (mget m c).wr = true := fun c hc => by
    rw [roM_get] at hc ⊢; exact roC_wr hc
  have occ : ∀ c b, Occ ρ c (mget (roM bs m) c) b → Occ ρ c (mget m c) b := fun c b o => by rw [roM_get] at o; exact roC_occ o
  refine ⟨fun c => ?_, fun c d b hne hw o o' => ?_, ⟨rfl, rfl, rfl, Nat.le_refl _, fun _ _ _ => rfl⟩, Ext.refl _, fun g v hg => ⟨?_, ?_, h.frm.glb h.glb hg⟩, fun c b hc o => ?_⟩
  · have hc := h.ch c
    cases hm : mget m c with
    | non => rw [roM_get, hm]; trivial
    | ro sz n f =>
      rw [roM_get, hm]
      rw [hm] at hc
      exact hc
    | own t sz n f =>
      have e : mget (roM bs m) c = .own t sz n f := by rw [roM_get, hm]; rfl
      rw [hm] at hc
      rw [e]
      obtain ⟨L, vs, k1, k2, k3, k4, k5, k6, k7⟩ := hc
      exact ⟨L, vs, k1, k2, k3, k4, fun b hb => ⟨(k5 b hb).1, .inr ⟨c, by rw [e]; rfl, by rw [e]; exact ⟨L, k1, hb⟩⟩⟩, k6, k7⟩
    | box t l =>
      rw [hm] at hc
      obtain ⟨L, vs, k1, k2, k3, k4, k5, k6, _⟩ := hc
      cases hb : inL c bs with
      | true =>
        rw [roM_get, hm, hb]
        have hlt : L.blk < w.heap.size := by
          rcases Nat.lt_or_ge L.blk w.heap.size with h | h
          · exact h
          · rw [Array.getElem?_eq_none h] at k4; cases k4
        refine ⟨L, k1, k3, fun _ => hlt, fun i hi => ?_⟩
        have : i = 0 := by omega
        subst this
        refine ⟨vs, k5, k5.length, k6, fun j u hu => ?_⟩
        rw [k2]
        simp only [Nat.zero_mul, Nat.zero_add]
        simp [World.cell?, k4, hu]
      | false =>
        have e : mget (roM bs m) c = .box t l := by rw [roM_get, hm, hb]; rfl
        rw [e]
        exact ⟨L, vs, k1, k2, k3, k4, k5, k6, .inr ⟨c, by rw [e]; rfl, by rw [e]; exact ⟨L, k1, rfl⟩⟩⟩
  · exact h.sep c d b hne (own c hw).2 (occ c b o) (occ d b o')
  · exact Nat.lt_of_lt_of_le (h.glb g v hg).1 h.frm.size
  · rintro ⟨c, hw, o⟩
    obtain ⟨k1, k2, _⟩ := h.glb g v hg
    rcases wr_may h (own c hw).2 (occ c g o) with j | j
    · omega
    · exact k2 j
  · have hc' : ρ.length ≤ c := hc
    rcases (h.ch c).loc with hn | ⟨L, hL⟩
    · have o2 := occ c b o
      rw [hn] at o2; exact o2.elim
    · have := (List.getElem?_eq_some_iff.1 hL).1; omega

theorem mix_leave {B : Bs} {ρ ρ' : List Loc} {m m' : Mem} {w w' : World} (h : MSat B ρ m w) {bs : List Nat} (hbx : allBox m ρ.length bs = true) (h' : MSat (mixB B ρ (roM bs m) w) ρ' m' w') (hk : backOk bs m m' ρ.length) :
    MSat B ρ' (backM bs m m') w' := by
  have e : Ext ρ ρ' := h'.ext
  have own : ∀ c, (mget (roM bs m) c).wr = true → (mget m c).wr = true := fun c hc => by
    rw [roM_get] at hc; exact (roC_wr hc).2
  have occ : ∀ c b, Occ ρ c (mget (roM bs m) c) b → Occ ρ c (mget m c) b := fun c b o => by rw [roM_get] at o; exact roC_occ o
  have mayX : ∀ x, mixX ρ (roM bs m) x → B.May x := fun x ⟨c, hw, o⟩ => wr_may h (own c hw) (occ c x o)
  have may : ∀ x, (mixB B ρ (roM bs m) w).May x → B.May x := fun x hx => by
    rcases hx with hx | hx
    · exact .inl (Nat.le_trans h.frm.size hx)
    · exact mayX x hx
  -- the variables that were set apart: nobody wrote there
  have kept : ∀ c t l L, inL c bs = true → mget m c = .box t l → ρ[c]? = some L → L.blk < w.heap.size ∧ ¬ mixX ρ (roM bs m) L.blk := by
    intro c t l L hb hm hL
    have o : Occ ρ c (mget m c) L.blk := by rw [hm]; exact ⟨L, hL, rfl⟩
    refine ⟨h.occ_lt o, fun ⟨d, hw, o'⟩ => ?_⟩
    by_cases hdc : d = c
    · subst hdc
      rw [roM_get, hm, hb] at hw; cases hw
    · exact h.sep d c L.blk hdc (own d hw) (occ d _ o') o
  have get : ∀ c, (inL c bs = true ∧ ∃ t l, mget m c = .box t l ∧ mget (backM bs m m') c = .box t l) ∨ (inL c bs = false ∧ mget (backM bs m m') c = mget m' c) := by
    intro c
    rw [backM_get]
    cases hb : inL c bs with
    | true =>
      obtain ⟨_, t, l, hm⟩ := allBox_mem hbx c (inL_mem hb)
      rw [hm]
      exact .inl ⟨rfl, t, l, rfl, rfl⟩
    | false =>
      refine .inr ⟨rfl, ?_⟩
      cases mget m c <;> rfl
  -- where a chunk lies now, it lay before, or it is new
  have back : ∀ c b, Occ ρ' c (mget (backM bs m m') c) b → (c < ρ.length ∧ Occ ρ c (mget m c) b ∧ ((mget (backM bs m m') c).wr = true → (mget m c).wr = true)) ∨ (ρ.length ≤ c ∧ inL c bs = false ∧ mget (backM bs m m') c = mget m' c ∧ (w.heap.size ≤ b ∨ mixX ρ (roM bs m) b)) := by
    intro c b o
    rcases get c with ⟨hb, t, l, hm, hg⟩ | ⟨hb, hg⟩
    · have hlt := (allBox_mem hbx c (inL_mem hb)).1
      rw [hg] at o
      obtain ⟨L, hL⟩ : ∃ L, ρ[c]? = some L := ⟨_, List.getElem?_eq_getElem hlt⟩
      obtain ⟨L2, h2, h3⟩ := o
      rw [e c L hL] at h2; cases h2
      exact .inl ⟨hlt, by rw [hm]; exact ⟨L, hL, h3⟩, fun _ => by rw [hm]; rfl⟩
    · rw [hg] at o ⊢
      rcases Nat.lt_or_ge c ρ.length with hlt | hge
      · exact .inl ⟨hlt, kindP_occ e hlt (backOk_get hk c hlt hb) o⟩
      · exact .inr ⟨hge, hb, rfl, h'.fresh c b hge o⟩
  refine ⟨fun c => ?_, fun c d b hne hw o o' => ?_, ?_, h.ext.trans e, h.glb, fun c b hc o => ?_⟩
  · rcases get c with ⟨hb, t, l, hm, hg⟩ | ⟨hb, hg⟩
    · rw [hg]
      have hc := h.ch c
      rw [hm] at hc
      obtain ⟨L, vs, k1, k2, k3, k4, k5, k6, k7⟩ := hc
      obtain ⟨q1, q2⟩ := kept c t l L hb hm k1
      exact ⟨L, vs, e c L k1, k2, k3, (h'.frm.block _ q1 q2).trans k4, RelL.mono e _ _ k5, k6, k7⟩
    · rw [hg]
      have hc := h'.ch c
      cases hm : mget m' c with
      | non => trivial
      | ro sz n f => rw [hm] at hc; exact hc
      | own t sz n f =>
        rw [hm] at hc
        obtain ⟨L, vs, k1, k2, k3, k4, k5, k6, k7⟩ := hc
        exact ⟨L, vs, k1, k2, k3, k4, fun b hb => ⟨(k5 b hb).1, may b (k5 b hb).2⟩, k6, k7⟩
      | box t l =>
        rw [hm] at hc
        obtain ⟨L, vs, k1, k2, k3, k4, k5, k6, k7⟩ := hc
        exact ⟨L, vs, k1, k2, k3, k4, k5, k6, may _ k7⟩
  · -- both old; one of them new; both new
    have mixed : ∀ c d, (mget (backM bs m m') c).wr = true ∨ (mget (backM bs m m') d).wr = true → c ≠ d → Occ ρ' c (mget (backM bs m m') c) b → Occ ρ' d (mget (backM bs m m') d) b →
        (c < ρ.length ∧ Occ ρ c (mget m c) b ∧ ((mget (backM bs m m') c).wr = true → (mget m c).wr = true)) → (ρ.length ≤ d ∧ inL d bs = false ∧ mget (backM bs m m') d = mget m' d ∧ (w.heap.size ≤ b ∨ mixX ρ (roM bs m) b)) → False := by
      intro c d hw hne o o' ⟨hc, oc, hwc⟩ ⟨hd, hbd, hgd, hfr⟩
      rcases hfr with hfr | hfr
      · have := h.occ_lt oc; omega
      · rcases get c with ⟨hb, t, l, hm, hg⟩ | ⟨hb, hg⟩
        · have oc' := oc
          rw [hm] at oc'
          obtain ⟨L, h1, h2⟩ := oc'
          obtain ⟨_, q2⟩ := kept c t l L hb hm h1
          exact q2 (by rw [h2]; exact hfr)
        · rw [hg] at hw o
          rw [hgd] at hw o'
          rcases hw with hw | hw
          · exact h'.sep c d b hne hw o o'
          · exact h'.sep d c b (Ne.symm hne) hw o' o
    rcases back c b o with hc | hc <;> rcases back d b o' with hd | hd
    · exact h.sep c d b hne (hc.2.2 hw) hc.2.1 hd.2.1
    · exact mixed c d (.inl hw) hne o o' hc hd
    · exact mixed d c (.inr hw) (Ne.symm hne) o' o hd hc
    · rw [hc.2.2.1] at hw o
      rw [hd.2.2.1] at o'
      exact h'.sep c d b hne hw o o'
  · refine h.frm.step h'.frm.os h'.frm.tape h'.frm.output h'.frm.size (fun x hx hnx => h'.frm.block x (Nat.lt_of_lt_of_le hx h.frm.size) (fun hX => ?_))
    rcases mayX x hX with j | j
    · omega
    · exact hnx j
  · rcases back c b o with hc' | hc'
    · exact h.fresh c b hc hc'.2.1
    · exact may b hc'.2.2.2

/-- THE RULE. -/
theorem reg_mix {Γ : Cx} {ops : Array Oper} {s : St} {K : St → Prop} (bs : List Nat) (l : List (Nat × Bool)) (hB : (Region.noSelect ops && Nat.beq l.length ops.size && mixOk ops l (Array.replicate ops.size false)) = true) (hbx : allBox s.mem s.nx bs = true)
    (h : ∀ B' : Bs, B'.glob = Γ.B.glob → vcMix ⟨Γ.P, Γ.tab, B', Γ.N, s.nx⟩ (roM bs s.mem) ops.toList l ⟨s.fr, roM bs s.mem, s.nx⟩ (fun s' => backOk bs s.mem s'.mem s.nx ∧ fmem (backM bs s.mem s'.mem) fun M => K ⟨s'.fr, M, s'.nx⟩)) : RegG Γ ops s K := by
  refine ⟨fun ht hf Q id ρ a w hK hQ H => ?_⟩
  simp only [Bool.and_eq_true] at hB
  have H' : Holds Γ.B Γ.N ρ s a { w with drawn := w.drawn + 1 } := H.drew
  have hnx := H'.nx
  have hm := mix_enter H'.mem bs
  have hbx' : allBox s.mem ρ.length bs = true := by rw [hnx]; exact hbx
  refine wp_region_mix (Inv := Frm (mixB Γ.B ρ (roM bs s.mem) { w with drawn := w.drawn + 1 })) hf hQ l hB.1.1 (Nat.eq_of_beq_eq_true hB.1.2) hB.2 hm.frm ?_
  refine vcMix_sound (Γ := ⟨Γ.P, Γ.tab, mixB Γ.B ρ (roM bs s.mem) { w with drawn := w.drawn + 1 }, Γ.N, s.nx⟩) ht (m0 := roM bs s.mem) ⟨hm.ch, ?_⟩ ?_ l _ ρ a _ (h _ rfl) ⟨hnx, H'.fr, H'.size, H'.dfr, hm⟩
  · intro c sz n f L hc hn hL
    have o : Occ ρ c (mget (roM bs s.mem) c) L.blk := by rw [hc]; exact ⟨hn, L, hL, rfl⟩
    refine ⟨hm.occ_lt o, fun ⟨d, hw, o'⟩ => ?_⟩
    have hdc : d ≠ c := fun e => by subst e; rw [hc] at hw; cases hw
    exact hm.sep d c L.blk hdc hw o' o
  · intro s' ρ' a' w' hk H''
    obtain ⟨hk1, hk2⟩ := hk
    rw [fmem_eq] at hk2
    refine hK _ ρ' a' w' hk2 ⟨H''.nx, H''.fr, H''.size, H''.dfr, mix_leave H'.mem hbx' H''.mem (by rw [hnx]; exact hk1)⟩
end Go.Proofs.Ytdabahipeepheaa.Vc
