/- Verification conditions by symbolic execution: operations that change no memory are sound (the others, and all). -/
import Derived.Test.YtiihmggoebohkaaDoorVc6
namespace Go.Proofs.YtiihmggoebohkaaDoor.Vc
open Go Go.RowKit

section
variable {P : Program} {tab : Tab} {B : Bs} {N : Nat} {ρ : List Loc} {s : St} {a : Act} {w : World} {K : SV → Prop} {dst : Option Nat} {ty : TypeId} {pos : String} {after : Array Edge} {guard : Option (Nat × Bool)}

theorem run_bounds (isSlice : Bool) (len cap : Nat) (lo hi : Option Value) (l h : Int) (hl : lo = some (.int .i64 l) ∨ (∃ k, lo = some (.int k l)) ∨ lo = none ∧ l = 0) (hh : (∃ k, hi = some (.int k h)) ∨ hi = none ∧ h = (len : Int))
    (h0 : 0 ≤ l) (h1 : l ≤ h) (h2 : h ≤ (len : Int)) (h3 : len ≤ cap) : (Instr.sliceBounds isSlice len cap lo hi none).run P w = .ok (l.toNat, h.toNat, cap) w := by
  have hl' : (∃ k, lo = some (.int k l)) ∨ lo = none ∧ l = 0 := by
    rcases hl with h | h | h
    · exact .inl ⟨_, h⟩
    · exact .inl h
    · exact .inr h
  have e1 : h ≤ (cap : Int) := by omega
  have e2 : 0 ≤ h := by omega
  have e3 : l ≤ max h 0 := by omega
  rcases hh with ⟨k, rfl⟩ | ⟨rfl, rfl⟩
  · rcases hl' with ⟨k', rfl⟩ | ⟨rfl, rfl⟩
    · cases isSlice <;> simp [Instr.sliceBounds, Instr.sliceBound, asIntOf, e1, e2, e3, h0]
    · cases isSlice <;> simp [Instr.sliceBounds, Instr.sliceBound, asIntOf, e1, e2]
  · rcases hl' with ⟨k', rfl⟩ | ⟨rfl, rfl⟩
    · simp [Instr.sliceBounds, Instr.sliceBound, asIntOf, h0, h1]
    · simp [Instr.sliceBounds]

/-- Both bounds, given or not. -/
theorem bounds_case {s : St} {ρ : List Loc} {a : Act} {w : World} (H : Holds B N ρ s a w) {lo hi : Option Operand} {n : Nat} {go : Int → Int → Prop}
    (h : bnds s lo hi n go) :
    ∃ l h, ((∃ k, lo.map a.eval = some (.int k l)) ∨ lo.map a.eval = none ∧ l = 0) ∧ ((∃ k, hi.map a.eval = some (.int k h)) ∨ hi.map a.eval = none ∧ h = (n : Int)) ∧ go l h := by
  unfold bnds at h
  cases lo with
  | none => cases hi with
    | none => exact ⟨0, n, .inr ⟨rfl, rfl⟩, .inr ⟨rfl, rfl⟩, h⟩
    | some h' =>
      simp only at h
      split at h
      · rename_i k x he
        have := H.ev h'
        rw [he] at this
        exact ⟨0, x, .inr ⟨rfl, rfl⟩, .inl ⟨k, by simp [rel_v this]⟩, h⟩
      · exact h.elim
  | some l' => cases hi with
    | none =>
      simp only at h
      split at h
      · rename_i k x he
        have := H.ev l'
        rw [he] at this
        exact ⟨x, n, .inl ⟨k, by simp [rel_v this]⟩, .inr ⟨rfl, rfl⟩, h⟩
      · exact h.elim
    | some h' =>
      simp only at h
      split at h
      · rename_i k x k2 x2 he he2
        have h1 := H.ev l'
        have h2 := H.ev h'
        rw [he] at h1
        rw [he2] at h2
        exact ⟨x, x2, .inl ⟨k, by simp [rel_v h1]⟩, .inl ⟨k2, by simp [rel_v h2]⟩, h⟩
      · exact h.elim

theorem s_slice (ht : Tab.ok P tab) (H : Holds B N ρ s a w) {T : Nat} {x : Operand} {lo hi mx : Option Operand} (h : vcVal P tab s ⟨dst, .slice T x lo hi mx, ty, pos, after, guard⟩ K) : Good P ρ a w ⟨dst, .slice T x lo hi mx, ty, pos, after, guard⟩ K := by
  simp only [vcVal] at h
  have hx := H.ev x
  split at h
  · exact h B N ρ a w H
  · split at h
    · exact h.elim
    · rename_i ti hT
      obtain ⟨desc, hu, hd⟩ := tab_und ht hT
      split at h
      · rename_i hd0
        rw [hd0] at hd
        simp only [TD.ok] at hd
        subst hd
        split at h
        · rename_i b he
          rw [he] at hx
          have hv := rel_v hx
          obtain ⟨l, h', hl, hh, ⟨h0, h1, h2⟩, hk⟩ := bounds_case (n := b.size) (go := fun l h => (0 ≤ l ∧ l ≤ h ∧ h ≤ (b.size : Int)) ∧ K (.v (.string (b.extract l.toNat h.toNat)))) H h
          refine good_val (q := Instr.sliceAt T (a.eval x) (lo.map a.eval) (hi.map a.eval) none) rfl (v := .string (b.extract l.toNat h'.toNat)) ?_ (by simp only [Rel]) hk
          rw [hv]
          have hb := run_bounds (P := P) (w := w) false b.size b.size (lo.map a.eval) (hi.map a.eval) l h' (.inr hl) hh h0 h1 h2 (Nat.le_refl _)
          simp [Instr.sliceAt, Instr.slice, run_underlying hu, hb]
        · exact h B N ρ a w H
      · rename_i e hd0
        rw [hd0] at hd
        simp only [TD.ok] at hd
        subst hd
        split at h
        · exact h.elim
        · rename_i te he3
          have hsz := tab_size ht he3 w
          have fin : ∀ (c i n : Nat) (L : Loc) (A : Option Addr) (cap : Nat), ρ[c]? = some L → L.sz = te.size → a.eval x = .slice A n cap → n ≤ cap → cap ≤ maxLen → (0 < n → A = some ⟨L.blk, L.off + i * L.sz, none⟩) →
              bnds s lo hi n (fun l h => (0 ≤ l ∧ l ≤ h ∧ h ≤ (n : Int)) ∧ K (.s c (i + l.toNat) (h.toNat - l.toNat))) →
              Good P ρ a w ⟨dst, .slice T x lo hi none, ty, pos, after, guard⟩ K := by
            intro c i n L A cap hL hs hv hn hc hA h
            obtain ⟨l, h', hl, hh, ⟨h0, h1, h2⟩, hk⟩ := bounds_case (go := fun l h => (0 ≤ l ∧ l ≤ h ∧ h ≤ (n : Int)) ∧ K (.s c (i + l.toNat) (h.toNat - l.toNat))) H h
            have hb := run_bounds (P := P) (w := w) true n cap (lo.map a.eval) (hi.map a.eval) l h' (.inr hl) hh h0 h1 h2 hn
            refine good_val (q := Instr.sliceAt T (a.eval x) (lo.map a.eval) (hi.map a.eval) none) rfl (v := .slice (if cap = l.toNat then A else A.map (·.add (l.toNat * te.size))) (h'.toNat - l.toNat) (cap - l.toNat)) ?_ ?_ hk
            · rw [hv]
              simp [Instr.sliceAt, Instr.slice, run_underlying hu, hb, hsz]
            · simp only [Rel]
              refine ⟨L, _, _, hL, rfl, by omega, by omega, fun hpos => ?_⟩
              rw [if_neg (by omega), hA (by omega)]
              simp only [Option.map_some, Addr.add_lit, ← hs, Nat.add_mul, Nat.add_assoc]
          split at h
          · rename_i c i n he
            rw [he] at hx
            obtain ⟨L, A, cap, hL, hv, hn, hc, hA⟩ := rel_s hx
            have hch := H.mem.ch c
            split at h
            · rename_i sz _ _ hm
              rw [hm] at hch
              obtain ⟨L', h1, h2, _⟩ := hch
              rw [hL] at h1; cases h1
              cases hb : Nat.beq sz te.size with
              | false => rw [hb] at h; exact h.elim
              | true => rw [hb] at h; exact fin c i n L A cap hL (h2.trans (Nat.eq_of_beq_eq_true hb)) hv hn hc hA h
            · rename_i _ sz _ _ hm
              rw [hm] at hch
              cases hb : Nat.beq sz te.size with
              | false => rw [hb] at h; exact h.elim
              | true => rw [hb] at h; exact fin c i n L A cap hL ((own_form hch hL).1.trans (Nat.eq_of_beq_eq_true hb)) hv hn hc hA h
            · exact h.elim
          · rename_i c he
            rw [he] at hx
            obtain ⟨L, hL, hv⟩ := rel_o hx
            have hch := H.mem.ch c
            split at h
            · rename_i _ sz n _ hm
              rw [hm] at hch
              obtain ⟨h2, h3, A, cap, hv', hn, hc, hA, _⟩ := own_form hch hL
              cases hb : Nat.beq sz te.size with
              | false => rw [hb] at h; exact h.elim
              | true => rw [hb] at h; exact fin c 0 n L A cap hL (h2.trans (Nat.eq_of_beq_eq_true hb)) (hv.trans hv') hn hc (fun hp => by rw [hA hp, h3]; simp) h
            · exact h.elim
          · exact h B N ρ a w H
      · exact h B N ρ a w H

theorem s_extract (H : Holds B N ρ s a w) {k : Nat} {x : Operand} (h : vcVal P tab s ⟨dst, .extract x k, ty, pos, after, guard⟩ K) : Good P ρ a w ⟨dst, .extract x k, ty, pos, after, guard⟩ K := by
  simp only [vcVal] at h
  have hx := H.ev x
  split at h
  · rename_i l he
    rw [he] at hx
    obtain ⟨vs, hv, hr⟩ := rel_t hx
    split at h
    · rename_i y hn
      rw [nth_eq] at hn
      obtain ⟨v, hv2, hy⟩ := hr.get hn
      exact good_val (q := Instr.extract (a.eval x) k) rfl (by rw [hv]; simp [Instr.extract, hv2]) hy h
    · exact h.elim
  · exact h B N ρ a w H

theorem s_makeInterface (ht : Tab.ok P tab) (H : Holds B N ρ s a w) {T : Nat} {x : Operand} (h : vcVal P tab s ⟨dst, .makeInterface T x, ty, pos, after, guard⟩ K) : Good P ρ a w ⟨dst, .makeInterface T x, ty, pos, after, guard⟩ K := by
  simp only [vcVal] at h
  have hx := H.ev x
  split at h
  · rename_i y he
    rw [he] at hx
    have hv := rel_v hx
    split at h
    · rename_i ti hT
      obtain ⟨desc, hu, hd⟩ := tab_und ht hT
      have fin : (∀ ms, desc ≠ .interface ms) → K (.v (.iface T y)) → Good P ρ a w ⟨dst, .makeInterface T x, ty, pos, after, guard⟩ K := by
        intro hn hk
        refine good_val (q := Instr.makeInterface T (a.eval x)) rfl (v := .iface T y) ?_ (by simp only [Rel]) hk
        rw [hv]
        cases desc with
        | interface ms => exact absurd rfl (hn ms)
        | _ => simp [Instr.makeInterface, run_underlying hu]
      split at h
      · exact h.elim
      · rename_i hne
        refine fin (fun ms e => ?_) h
        subst e
        cases hi : ti.d with
        | ifc => exact hne hi
        | sl e => rw [hi] at hd; cases hd
        | st fs => rw [hi] at hd; obtain ⟨g, hg, _⟩ := hd; cases hg
        | arr n e => rw [hi] at hd; cases hd
        | str => rw [hi] at hd; cases hd
        | int k => rw [hi] at hd; cases hd
        | sc => rw [hi] at hd; exact hd
    · exact h.elim
  · exact h B N ρ a w H

theorem relL_map {s : St} (H : Holds B N ρ s a w) : ∀ (cs : List Operand), RelL ρ (cs.map (ev s)) (cs.map a.eval)
  | [] => by simp [RelL]
  | x :: r => by simp only [List.map_cons, RelL]; exact ⟨_, _, rfl, H.ev x, relL_map H r⟩

theorem s_makeFunc (H : Holds B N ρ s a w) {fn : Fn} {fs cs : Array Operand} (h : vcVal P tab s ⟨dst, .makeFunc fn fs cs, ty, pos, after, guard⟩ K) : Good P ρ a w ⟨dst, .makeFunc fn fs cs, ty, pos, after, guard⟩ K := by
  simp only [vcVal] at h
  split at h
  · rename_i g
    split at h
    · rename_i hf
      have hf' : fs = #[] := by cases fs; simpa using hf
      subst hf'
      refine good_val (q := Instr.makeFunc (.func g) ((#[] : Array Operand).map a.eval) (cs.map a.eval)) rfl (v := .func (.func g) #[] (cs.map a.eval)) (by simp [Instr.makeFunc]) ?_ h
      simp only [Rel]
      exact ⟨cs.toList.map a.eval, by cases cs; simp, relL_map H _⟩
    · exact h B N ρ a w H
  · exact h B N ρ a w H

theorem s_nilCheck (H : Holds B N ρ s a w) {x : Operand} (h : vcVal P tab s ⟨dst, .nilCheck x, ty, pos, after, guard⟩ K) : Good P ρ a w ⟨dst, .nilCheck x, ty, pos, after, guard⟩ K := by
  simp only [vcVal] at h
  have hx := H.ev x
  split at h
  · rename_i c i d he
    rw [he] at hx
    obtain ⟨L, hL, hv⟩ := rel_p hx
    exact ⟨_, _, by simp [execOp, hv], hx, by rw [hv] at *; exact h⟩
  · rename_i g l he
    rw [he] at hx
    obtain ⟨vs, hv, hr⟩ := rel_f hx
    exact ⟨_, _, by simp [execOp, hv], hx, by rw [hv] at *; exact h⟩
  · exact h B N ρ a w H
end
end Go.Proofs.YtiihmggoebohkaaDoor.Vc
