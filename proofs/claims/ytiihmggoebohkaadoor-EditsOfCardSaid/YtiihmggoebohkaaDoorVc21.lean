/- Verification conditions by symbolic execution: regions whose order is open, and in which what is read and what makes memory stand in no order. -/
import Derived.Test.YtiihmggoebohkaaDoorVc20
import Derived.Test.YtiihmggoebohkaaDoorVcM
namespace Go.Proofs.YtiihmggoebohkaaDoor.Vc
open Go Go.RowKit

def inL (c : Nat) : List Nat → Bool
  | [] => false
  | d :: r => bif Nat.beq c d then true else inL c r
theorem inL_mem : ∀ {c : Nat} {l : List Nat}, inL c l = true → c ∈ l
  | c, [], h => by cases h
  | c, d :: r, h => by
    simp only [inL] at h
    cases hb : Nat.beq c d with
    | true => have := Nat.eq_of_beq_eq_true hb; subst this; simp
    | false => rw [hb] at h; simp [inL_mem h]

/-- An operation that comes to the same value in every world that may be met: 'm0' is what was known at first, and nobody writes where it says 'ro'. -/
def vcEarly (tab : Tab) (m0 : Mem) (s : St) (o : Oper) (K : SV → Prop) : Prop :=
  match o.op with
  | .move x => K (ev s x)
  | .assign x => K (ev s x)
  | .extract x k => match ev s x with
    | .t l => match nth l k with | some y => K y | none => False
    | _ => False
  | .fieldAddr T x k => match ev s x with
    | .p c i d => match tget tab T with
      | some ti => match ti.d with
        | .st fs => match nthP fs k with
          | some (off, ty) => match tget tab ty with
            | some tj => bif Nat.beq tj.size 0 then False else K (.p c i (d + off))
            | none => False
          | none => False
        | _ => False
      | none => False
    | _ => False
  | .indexAddr T x y => match ev s x, ev s y with
    | .s c i n, .v (.int _ k) => match tget tab T with
      | some ti => match ti.d with
        | .sl e => match tget tab e with
          | some te => match mget m0 c with
            | .ro sz _ _ => bif Nat.beq sz te.size then (0 ≤ k ∧ k < (n : Int)) ∧ K (.p c (i + k.toNat) 0) else False
            | _ => False
          | none => False
        | _ => False
      | none => False
    | .p c i d, .v (.int _ k) => match tget tab T with
      | some ti => match ti.d with
        | .arr n e => match tget tab e with
          | some te => (0 ≤ k ∧ k < (n : Int)) ∧ K (.p c i (d + k.toNat * te.size))
          | none => False
        | _ => False
      | none => False
    | _, _ => False
  | .load T x => match ev s x with
    | .p c i d => match mget m0 c with
      | .ro _ n f => i < n ∧ frc (f i) (fun l => ldL tab T l d K)
      | _ => False
    | _ => False
  | .binOp op _ x y _ => match ev s x, ev s y with
    | .v (.int k a), .v (.int k' b) => bif kB k k' then vcInt op k a b K else False
    | _, _ => False
  | _ => False

/-- What was known at first, and where nobody writes. -/
structure Bs.Rx (B : Bs) (m0 : Mem) : Prop where
  ch : ∀ c, ChSat B B.r0 B.w0 c (mget m0 c)
  ro : ∀ c sz n f L, mget m0 c = .ro sz n f → 0 < n → B.r0[c]? = some L → L.blk < B.w0.heap.size ∧ ¬ B.X L.blk

section
variable {P : Program} {tab : Tab} {B : Bs} {N : Nat} {ρ : List Loc} {s : St} {a : Act} {w : World} {K : SV → Prop}

theorem vcEarly_sound (ht : Tab.ok P tab) (H : Holds B N ρ s a w) {m0 : Mem} (hx : B.Rx m0) {o : Oper} (h : vcEarly tab m0 s o K) : ∃ v x, (∀ w', Frm B w' → (execOp a.eval o).run P w' = .ok (.value v) w') ∧ Rel ρ x v ∧ K x := by
  obtain ⟨dst, op, ty, pos, after, guard⟩ := o
  cases op with
  | move x => exact ⟨_, _, fun w' _ => by simp [execOp], H.ev x, h⟩
  | assign x => exact ⟨_, _, fun w' _ => by simp [execOp], H.ev x, h⟩
  | extract x k =>
    simp only [vcEarly] at h
    have hv := H.ev x
    split at h
    · rename_i l he
      rw [he] at hv
      obtain ⟨vs, hv, hr⟩ := rel_t hv
      split at h
      · rename_i y hn
        rw [nth_eq] at hn
        obtain ⟨v, hv2, hy⟩ := hr.get hn
        exact ⟨v, y, fun w' _ => by simp [execOp, Instr.extract, hv, hv2], hy, h⟩
      · exact h.elim
    · exact h.elim
  | fieldAddr T x k =>
    simp only [vcEarly] at h
    have hv := H.ev x
    split at h
    · rename_i c i d he
      rw [he] at hv
      obtain ⟨L, hL, hv⟩ := rel_p hv
      split at h
      · rename_i ti hT
        split at h
        · rename_i fs hfs
          split at h
          · rename_i off tt hn
            split at h
            · rename_i tj hj
              cases hb : Nat.beq tj.size 0 with
              | true => rw [hb] at h; exact h.elim
              | false =>
                rw [hb] at h
                obtain ⟨desc, hu, hd⟩ := tab_und ht hT
                rw [hfs] at hd
                obtain ⟨g, rfl, hg⟩ := hd
                rw [nthP_eq, ← hg, List.getElem?_map] at hn
                cases hf : g.toList[k]? with
                | none => rw [hf] at hn; simp at hn
                | some f =>
                  rw [hf] at hn
                  simp at hn
                  obtain ⟨rfl, rfl⟩ := hn
                  have hf' : g[k]? = some f := by simpa using hf
                  have hne : tj.size ≠ 0 := fun e => by rw [e] at hb; simp [Nat.beq] at hb
                  refine ⟨.pointer (some ⟨L.blk, L.off + i * L.sz + (d + f.offset), none⟩), _, fun w' _ => ?_, ?_, h⟩
                  · have hsz := tab_size ht hj w'
                    simp [execOp, hv, Instr.fieldAt, run_underlying hu, hf', Instr.sureAddr, fieldPlace, hsz, hne, Addr.add_lit, Nat.add_assoc]
                  · simp only [Rel]; exact ⟨L, hL, rfl⟩
            · exact h.elim
          · exact h.elim
        · exact h.elim
      · exact h.elim
    · exact h.elim
  | indexAddr T x y =>
    simp only [vcEarly] at h
    have hv := H.ev x
    have hu := H.ev y
    split at h
    · rename_i c i n kk k he he2
      rw [he] at hv
      rw [he2] at hu
      obtain ⟨L, A, cap, hL, hv, hn, hc, hA⟩ := rel_s hv
      have hu2 := rel_v hu
      split at h
      · rename_i ti hT
        split at h
        · rename_i e hd0
          split at h
          · rename_i te he3
            have hch := hx.ch c
            split at h
            · rename_i sz nn f hm
              rw [hm] at hch
              cases hb : Nat.beq sz te.size with
              | false => rw [hb] at h; exact h.elim
              | true =>
                rw [hb] at h
                obtain ⟨⟨h0, h1⟩, hk⟩ := h
                have hs2 := Nat.eq_of_beq_eq_true hb
                obtain ⟨L', q1, q2, _⟩ := hch
                have := H.mem.ext c L' q1
                rw [hL] at this; cases this
                obtain ⟨desc, hud, hd⟩ := tab_und ht hT
                rw [hd0] at hd
                simp only [TD.ok] at hd
                subst hd
                refine ⟨.pointer (some ⟨L.blk, L.off + (i + k.toNat) * L.sz + 0, none⟩), _, fun w' _ => ?_, ?_, hk⟩
                · have hsz := tab_size ht he3 w'
                  have hAA := hA (by omega)
                  simp [execOp, hv, hu2, hAA, Instr.indexAt, run_underlying hud, asIntOf, h0, h1, hsz, Addr.add_lit, q2, hs2, Nat.add_mul, Nat.add_assoc]
                · simp only [Rel]; exact ⟨L, hL, rfl⟩
            · exact h.elim
          · exact h.elim
        · exact h.elim
      · exact h.elim
    · rename_i c i d kk k he he2
      rw [he] at hv
      rw [he2] at hu
      obtain ⟨L, hL, hv⟩ := rel_p hv
      have hu2 := rel_v hu
      split at h
      · rename_i ti hT
        split at h
        · rename_i n e hd0
          split at h
          · rename_i te he3
            obtain ⟨⟨h0, h1⟩, hk⟩ := h
            obtain ⟨desc, hud, hd⟩ := tab_und ht hT
            rw [hd0] at hd
            simp only [TD.ok] at hd
            subst hd
            refine ⟨.pointer (some ⟨L.blk, L.off + i * L.sz + (d + k.toNat * te.size), none⟩), _, fun w' _ => ?_, ?_, hk⟩
            · have hsz := tab_size ht he3 w'
              simp [execOp, hv, hu2, Instr.indexAt, run_underlying hud, asIntOf, h0, h1, hsz, Addr.add_lit, Instr.sureAddr, Nat.add_assoc]
            · simp only [Rel]; exact ⟨L, hL, rfl⟩
          · exact h.elim
        · exact h.elim
      · exact h.elim
    · exact h.elim
  | load T x =>
    simp only [vcEarly] at h
    have hv := H.ev x
    split at h
    · rename_i c i d he
      rw [he] at hv
      obtain ⟨L, hL, hv⟩ := rel_p hv
      have hch := hx.ch c
      split at h
      · rename_i sz n f hm
        rw [hm] at hch
        obtain ⟨hi, hk⟩ := h
        rw [frc_eq] at hk
        obtain ⟨L', h1, h2, h3, h4⟩ := hch
        have := H.mem.ext c L' h1
        rw [hL] at this; cases this
        obtain ⟨vs, r1, r2, r3, r4⟩ := h4 i hi
        obtain ⟨q1, q2⟩ := hx.ro c sz n f L hm (by omega) h1
        have hc0 : ∀ w', Frm B w' → ∀ j u, vs[j]? = some u → w'.cell? ⟨L.blk, L.off + i * L.sz + j, none⟩ = some u := by
          intro w' hw' j u hu
          rw [World.cell?_of_block (hw'.block _ q1 q2), h2]
          exact r4 j u hu
        obtain ⟨v, y, hrun, hy, hk'⟩ := ldL_sound2 ht hk (RelL.mono H.mem.ext _ _ r1) r3 L.blk (L.off + i * L.sz)
        exact ⟨v, y, fun w' hw' => by simp [execOp, hv, Instr.loadAt, Instr.sureAddr, hrun w' (hc0 w' hw')], hy, hk'⟩
      · exact h.elim
    · exact h.elim
  | binOp op T x y T2 =>
    simp only [vcEarly] at h
    have h1 := H.ev x
    have h2 := H.ev y
    split at h
    · rename_i k p k2 q he he2
      rw [he] at h1
      rw [he2] at h2
      cases hb : kB k k2 with
      | false => rw [hb] at h; exact h.elim
      | true =>
        rw [hb] at h
        have := kB_eq hb
        subst this
        obtain ⟨v, hr, hk⟩ := vcInt_sound (P := P) T x y h
        refine ⟨v, .v v, fun w' _ => ?_, by simp only [Rel], hk⟩
        have hq : execOp a.eval ⟨dst, .binOp op T x y T2, ty, pos, after, guard⟩ = (do pure (.value (← (do eqGuard op T x y (a.eval x) (a.eval y); binOp op T (a.eval x) (a.eval y))))) := rfl
        rw [hq]
        simp only [rel_v h1, rel_v h2]
        rw [Sem.run_bind, hr w']
        rfl
    · exact h.elim
  | _ => exact h.elim
end
end Go.Proofs.YtiihmggoebohkaaDoor.Vc
