/- Verification conditions by symbolic execution: operations that change no memory are sound. -/
import Derived.Test.YtiihmggoebohkaaDoorVc5
namespace Go.Proofs.YtiihmggoebohkaaDoor.Vc
open Go Go.RowKit

section
variable {P : Program} {tab : Tab} {B : Bs} {N : Nat} {ρ : List Loc} {s : St} {a : Act} {w : World} {K : SV → Prop} {dst : Option Nat} {ty : TypeId} {pos : String} {after : Array Edge} {guard : Option (Nat × Bool)}

/-- What is to be shown of each. -/
def Good (P : Program) (ρ : List Loc) (a : Act) (w : World) (o : Oper) (K : SV → Prop) : Prop := ∃ v x, (execOp a.eval o).run P w = .ok (.value v) w ∧ Rel ρ x v ∧ K x

theorem good_val {o : Oper} {q : Sem Value} (hq : execOp a.eval o = (do pure (.value (← q)))) {v : Value} {x : SV} (hr : q.run P w = .ok v w) (hx : Rel ρ x v) (hk : K x) : Good P ρ a w o K :=
  ⟨v, x, by rw [hq]; simp [hr], hx, hk⟩

theorem rel_p {c i o : Nat} {y : Value} (h : Rel ρ (.p c i o) y) : ∃ L, ρ[c]? = some L ∧ y = .pointer (some ⟨L.blk, L.off + i * L.sz + o, none⟩) := by simpa only [Rel] using h
theorem rel_v {x y : Value} (h : Rel ρ (.v x) y) : y = x := by simpa only [Rel] using h
theorem rel_s {c i n : Nat} {y : Value} (h : Rel ρ (.s c i n) y) : ∃ L A k, ρ[c]? = some L ∧ y = .slice A n k ∧ n ≤ k ∧ k ≤ maxLen ∧ (0 < n → A = some ⟨L.blk, L.off + i * L.sz, none⟩) := by simpa only [Rel] using h
theorem rel_o {c : Nat} {y : Value} (h : Rel ρ (.o c) y) : ∃ L, ρ[c]? = some L ∧ y = L.own := by
  simp only [Rel] at h
  obtain ⟨L, h1, h2, _⟩ := h
  exact ⟨L, h1, h2⟩
theorem rel_a {l : List SV} {y : Value} (h : Rel ρ (.a l) y) : ∃ vs, y = .agg vs.toArray ∧ RelL ρ l vs ∧ ∀ x ∈ vs, x.oneCell' = true := by simpa only [Rel] using h
theorem rel_t {l : List SV} {y : Value} (h : Rel ρ (.t l) y) : ∃ vs, y = .tuple vs.toArray ∧ RelL ρ l vs := by simpa only [Rel] using h
theorem rel_f {g : Nat} {l : List SV} {y : Value} (h : Rel ρ (.f g l) y) : ∃ vs, y = .func (.func g) #[] vs.toArray ∧ RelL ρ l vs := by simpa only [Rel] using h

theorem s_fieldAddr (ht : Tab.ok P tab) (H : Holds B N ρ s a w) {T k : Nat} {x : Operand} (h : vcVal P tab s ⟨dst, .fieldAddr T x k, ty, pos, after, guard⟩ K) : Good P ρ a w ⟨dst, .fieldAddr T x k, ty, pos, after, guard⟩ K := by
  simp only [vcVal] at h
  have hx := H.ev x
  split at h
  · rename_i c i d he
    rw [he] at hx
    obtain ⟨L, hL, hv⟩ := rel_p hx
    split at h
    · rename_i ti hT
      split at h
      · rename_i fs hfs
        split at h
        · rename_i off tt hn
          split at h
          · rename_i tj hj
            cases hb : Nat.beq tj.size 0 with
            | true => rw [hb] at h; exact h.elim
            | false =>
              rw [hb] at h
              obtain ⟨desc, hu, hd⟩ := tab_und ht hT
              rw [hfs] at hd
              obtain ⟨g, rfl, hg⟩ := hd
              rw [nthP_eq, ← hg, List.getElem?_map] at hn
              cases hf : g.toList[k]? with
              | none => rw [hf] at hn; simp at hn
              | some f =>
                rw [hf] at hn
                simp at hn
                obtain ⟨rfl, rfl⟩ := hn
                have hf' : g[k]? = some f := by simpa using hf
                have hsz := tab_size ht hj w
                have hne : tj.size ≠ 0 := fun e => by rw [e] at hb; simp [Nat.beq] at hb
                refine good_val (q := Instr.fieldAt T (a.eval x) k) rfl (v := .pointer (some ⟨L.blk, L.off + i * L.sz + (d + f.offset), none⟩)) ?_ ?_ h
                · rw [hv]
                  simp [Instr.fieldAt, run_underlying hu, hf', Instr.sureAddr, fieldPlace, hsz, hne, Addr.add_lit, Nat.add_assoc]
                · simp only [Rel]; exact ⟨L, hL, rfl⟩
          · exact h.elim
        · exact h.elim
      · exact h.elim
    · exact h.elim
  · exact h B N ρ a w H

theorem s_load (ht : Tab.ok P tab) (H : Holds B N ρ s a w) {T : Nat} {x : Operand} (h : vcVal P tab s ⟨dst, .load T x, ty, pos, after, guard⟩ K) : Good P ρ a w ⟨dst, .load T x, ty, pos, after, guard⟩ K := by
  simp only [vcVal] at h
  have hx := H.ev x
  split at h
  · rename_i c i d he
    rw [he] at hx
    obtain ⟨L, hL, hv⟩ := rel_p hx
    obtain ⟨l, L', vs, hl, hL', hr, h1, hc⟩ := cont_sound H.mem h
    rw [hL] at hL'; cases hL'
    obtain ⟨v, y, hrun, hy, hk⟩ := ldL_sound ht hl hr h1 hc
    exact good_val (q := Instr.loadAt T (a.eval x)) rfl (by rw [hv]; simp [Instr.loadAt, Instr.sureAddr, hrun]) hy hk
  · exact h B N ρ a w H

theorem s_field (ht : Tab.ok P tab) (H : Holds B N ρ s a w) {T k : Nat} {x : Operand} (h : vcVal P tab s ⟨dst, .field T x k, ty, pos, after, guard⟩ K) : Good P ρ a w ⟨dst, .field T x k, ty, pos, after, guard⟩ K := by
  simp only [vcVal] at h
  have hx := H.ev x
  split at h
  · rename_i l he
    rw [he] at hx
    obtain ⟨vs, hv, hr, h1⟩ := rel_a hx
    split at h
    · rename_i ti hT
      split at h
      · rename_i fs hfs
        split at h
        · rename_i off tt hn
          obtain ⟨desc, hu, hd⟩ := tab_und ht hT
          rw [hfs] at hd
          obtain ⟨g, rfl, hg⟩ := hd
          rw [nthP_eq, ← hg, List.getElem?_map] at hn
          cases hf : g.toList[k]? with
          | none => rw [hf] at hn; simp at hn
          | some f =>
            rw [hf] at hn
            simp at hn
            obtain ⟨rfl, rfl⟩ := hn
            have hf' : g[k]? = some f := by simpa using hf
            obtain ⟨v, y, hrun, hy, hk⟩ := part_sound ht h hr h1 w
            exact good_val (q := Instr.field T (a.eval x) k) rfl (by rw [hv]; simp [Instr.field, run_underlying hu, hf', asAgg, hrun]) hy hk
        · exact h.elim
      · exact h.elim
    · exact h.elim
  · exact h B N ρ a w H

theorem bt_get {b : ByteArray} {k : Int} (h0 : 0 ≤ k) (h1 : k < (b.size : Int)) : b[k.toNat]? = some (b.data.toList.getD k.toNat 0) := by
  have hlt : k.toNat < b.size := by omega
  have hlt' : k.toNat < b.data.toList.length := by simpa using hlt
  rw [List.getD_eq_getElem?_getD, List.getElem?_eq_getElem hlt']
  simp only [Option.getD_some]
  rw [getElem?_pos b k.toNat hlt]
  rfl

theorem s_index (ht : Tab.ok P tab) (H : Holds B N ρ s a w) {T : Nat} {x y : Operand} (h : vcVal P tab s ⟨dst, .index T x y, ty, pos, after, guard⟩ K) : Good P ρ a w ⟨dst, .index T x y, ty, pos, after, guard⟩ K := by
  simp only [vcVal] at h
  have hx := H.ev x
  have hy := H.ev y
  split at h
  · rename_i b kk k he he2
    rw [he] at hx
    rw [he2] at hy
    have hv := rel_v hx
    have hu2 := rel_v hy
    split at h
    · rename_i ti hT
      split at h
      · rename_i hd0
        obtain ⟨⟨h0, h1⟩, hk⟩ := h
        obtain ⟨desc, hu, hd⟩ := tab_und ht hT
        rw [hd0] at hd
        simp only [TD.ok] at hd
        subst hd
        refine good_val (q := Instr.index T (a.eval x) (a.eval y)) rfl (v := .int .u8 (bt b k)) ?_ (by simp only [Rel]) hk
        rw [hv, hu2]
        simp [Instr.index, run_underlying hu, asIntOf, h0, bt_get h0 h1, bt]
      · exact h.elim
    · exact h.elim
  · rename_i l kk k he he2
    rw [he] at hx
    rw [he2] at hy
    obtain ⟨vs, hv, hr, hone⟩ := rel_a hx
    have hu2 := rel_v hy
    split at h
    · rename_i ti hT
      split at h
      · rename_i n e hd0
        split at h
        · rename_i te he3
          obtain ⟨⟨h0, h1⟩, hk⟩ := h
          obtain ⟨desc, hu, hd⟩ := tab_und ht hT
          rw [hd0] at hd
          simp only [TD.ok] at hd
          subst hd
          obtain ⟨v, z, hrun, hz, hk⟩ := part_sound ht hk hr hone w
          have hsz := tab_size ht he3 w
          refine good_val (q := Instr.index T (a.eval x) (a.eval y)) rfl (v := v) ?_ hz hk
          rw [hv, hu2]
          simp [Instr.index, run_underlying hu, asIntOf, h0, h1, hsz, hrun]
        · exact h.elim
      · exact h.elim
    · exact h.elim
  · exact h B N ρ a w H

theorem own_form {B : Bs} {ρ : List Loc} {w : World} {c e sz n : Nat} {f : Nat → List SV} {L : Loc} (h : ChSat B ρ w c (.own e sz n f)) (hL : ρ[c]? = some L) :
    L.sz = sz ∧ L.off = 0 ∧ ∃ A k, L.own = .slice A n k ∧ n ≤ k ∧ k ≤ maxLen ∧ (0 < n → A = some ⟨L.blk, 0, none⟩) ∧ (∀ g, A = some g → g = ⟨L.blk, 0, none⟩) := by
  obtain ⟨L', vs, h1, h2, h3, h4, h5, _⟩ := h
  rw [hL] at h1; cases h1
  refine ⟨h2, h3, ?_⟩
  rcases h4.2 with ⟨hv, hn⟩ | ⟨g, cap, cur, hv, _, _, h6, h7, _⟩
  · subst hn; exact ⟨none, 0, hv, Nat.le_refl _, Nat.zero_le _, fun h => absurd h (by omega), fun _ h => by cases h⟩
  · have : L.blk = g := (h5 g (by rw [hv]; rfl)).1
    exact ⟨_, cap, hv, h6, h7, fun _ => by rw [this], fun _ h => by cases h; rw [this]⟩

theorem s_indexAddr (ht : Tab.ok P tab) (H : Holds B N ρ s a w) {T : Nat} {x y : Operand} (h : vcVal P tab s ⟨dst, .indexAddr T x y, ty, pos, after, guard⟩ K) : Good P ρ a w ⟨dst, .indexAddr T x y, ty, pos, after, guard⟩ K := by
  simp only [vcVal] at h
  have hx := H.ev x
  have hy := H.ev y
  have sl : ∀ (e : Nat) (te : TI) (ti : TI) (A : Option Addr) (n cap : Nat) (kk : IntKind) (k : Int) (blk o sz c' i' : Nat) (L : Loc), tget tab T = some ti → ti.d = .sl e → tget tab e = some te → a.eval x = .slice A n cap → a.eval y = .int kk k →
      0 ≤ k → k < (n : Int) → A = some ⟨blk, o, none⟩ → ρ[c']? = some L → L.sz = te.size → L.blk = blk → L.off + i' * L.sz = o + k.toNat * L.sz → K (.p c' i' 0) → Good P ρ a w ⟨dst, .indexAddr T x y, ty, pos, after, guard⟩ K := by
    intro e te ti A n cap kk k blk o sz c' i' L hT hd0 he hv hu2 h0 h1 hA hL hLs hLb hLo hk
    obtain ⟨desc, hu, hd⟩ := tab_und ht hT
    rw [hd0] at hd
    simp only [TD.ok] at hd
    subst hd
    have hsz := tab_size ht he w
    refine good_val (q := Instr.indexAt T (a.eval x) (a.eval y)) rfl (v := .pointer (some ⟨blk, o + k.toNat * te.size, none⟩)) ?_ ?_ hk
    · rw [hv, hu2, hA]
      simp [Instr.indexAt, run_underlying hu, asIntOf, h0, h1, hsz, Addr.add_lit]
    · simp only [Rel]
      exact ⟨L, hL, by rw [hLb, hLo, hLs]; rfl⟩
  split at h
  · rename_i c i n kk k he he2
    rw [he] at hx
    rw [he2] at hy
    obtain ⟨L, A, cap, hL, hv, hn, hc, hA⟩ := rel_s hx
    have hu2 := rel_v hy
    split at h
    · rename_i ti hT
      split at h
      · rename_i e hd0
        split at h
        · rename_i te he3
          have fin : ∀ sz, L.sz = sz → (bif Nat.beq sz te.size then (0 ≤ k ∧ k < (n : Int)) ∧ K (.p c (i + k.toNat) 0) else False) → Good P ρ a w ⟨dst, .indexAddr T x y, ty, pos, after, guard⟩ K := by
            intro sz hs h
            cases hb : Nat.beq sz te.size with
            | false => rw [hb] at h; exact h.elim
            | true =>
              rw [hb] at h
              obtain ⟨⟨h0, h1⟩, hk⟩ := h
              have hs2 := Nat.eq_of_beq_eq_true hb
              exact sl e te ti A n cap kk k L.blk (L.off + i * L.sz) sz c (i + k.toNat) L hT hd0 he3 hv hu2 h0 h1 (hA (by omega)) hL (by omega) rfl (by rw [Nat.add_mul]; omega) hk
          have hch := H.mem.ch c
          split at h
          · rename_i sz _ _ hm
            rw [hm] at hch
            obtain ⟨L', h1, h2, _⟩ := hch
            rw [hL] at h1; cases h1
            exact fin sz h2 h
          · rename_i _ sz _ _ hm
            rw [hm] at hch
            exact fin sz (own_form hch hL).1 h
          · exact h.elim
        · exact h.elim
      · exact h.elim
    · exact h.elim
  · rename_i c kk k he he2
    rw [he] at hx
    rw [he2] at hy
    obtain ⟨L, hL, hv⟩ := rel_o hx
    have hu2 := rel_v hy
    split at h
    · rename_i ti hT
      split at h
      · rename_i e hd0
        split at h
        · rename_i te he3
          have hch := H.mem.ch c
          split at h
          · rename_i _ sz n _ hm
            rw [hm] at hch
            obtain ⟨h2, h3, A, cap, hv', hn, hc, hA, _⟩ := own_form hch hL
            cases hb : Nat.beq sz te.size with
            | false => rw [hb] at h; exact h.elim
            | true =>
              rw [hb] at h
              obtain ⟨⟨h0, h1⟩, hk⟩ := h
              have hs2 := Nat.eq_of_beq_eq_true hb
              exact sl e te ti A n cap kk k L.blk 0 sz c k.toNat L hT hd0 he3 (hv.trans hv') hu2 h0 h1 (hA (by omega)) hL (by omega) rfl (by omega) hk
          · exact h.elim
        · exact h.elim
      · exact h.elim
    · exact h.elim
  · rename_i c i d kk k he he2
    rw [he] at hx
    rw [he2] at hy
    obtain ⟨L, hL, hv⟩ := rel_p hx
    have hu2 := rel_v hy
    split at h
    · rename_i ti hT
      split at h
      · rename_i n e hd0
        split at h
        · rename_i te he3
          obtain ⟨⟨h0, h1⟩, hk⟩ := h
          obtain ⟨desc, hu, hd⟩ := tab_und ht hT
          rw [hd0] at hd
          simp only [TD.ok] at hd
          subst hd
          have hsz := tab_size ht he3 w
          refine good_val (q := Instr.indexAt T (a.eval x) (a.eval y)) rfl (v := .pointer (some ⟨L.blk, L.off + i * L.sz + (d + k.toNat * te.size), none⟩)) ?_ ?_ hk
          · rw [hv, hu2]
            simp [Instr.indexAt, run_underlying hu, asIntOf, h0, h1, hsz, Addr.add_lit, Instr.sureAddr, Nat.add_assoc]
          · simp only [Rel]; exact ⟨L, hL, rfl⟩
        · exact h.elim
      · exact h.elim
    · exact h.elim
  · exact h B N ρ a w H
end
end Go.Proofs.YtiihmggoebohkaaDoor.Vc
