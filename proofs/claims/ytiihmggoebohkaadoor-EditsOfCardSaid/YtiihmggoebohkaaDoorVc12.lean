/- Verification conditions by symbolic execution: appends, calls, and every operation: sound. -/
import Derived.Test.YtiihmggoebohkaaDoorVc11
namespace Go.Proofs.YtiihmggoebohkaaDoor.Vc
open Go Go.RowKit

section
variable {Γ : Cx} {ρ : List Loc} {s : St} {a : Act} {w : World} {K : St → Prop} {dst : Option Nat} {ty : TypeId} {pos : String} {after : Array Edge} {guard : Option (Nat × Bool)} {Q : Exit → Act → World → Prop}

theorem e_makeSlice (ht : Tab.ok Γ.P Γ.tab) (H : Holds Γ.B Γ.N ρ s a w) {T : Nat} {x y : Operand} (h : vcOp Γ s ⟨dst, .makeSlice T x y, ty, pos, after, guard⟩ K) : Oper.wp Γ.P ⟨dst, .makeSlice T x y, ty, pos, after, guard⟩ a w (After Γ K) Q := by
  simp only [vcOp] at h
  have hx := H.ev x
  have hy := H.ev y
  split at h
  · rename_i n m he he2
    rw [he] at hx
    rw [he2] at hy
    split at h
    · rename_i ti hT
      obtain ⟨desc, hu, hd⟩ := tab_und ht hT
      split at h
      · rename_i e hde
        rw [hde] at hd
        simp only [TD.ok] at hd
        subst hd
        split at h
        · rename_i te he3
          obtain ⟨⟨rfl, h0, h1, h2⟩, hk⟩ := h
          obtain ⟨j, z, k1, k2, k3, k4, k5⟩ := (ht e te he3).info
          obtain ⟨n', rfl⟩ := Int.eq_ofNat_of_zero_le h0
          simp only [Int.toNat_natCast] at h1 hk
          have hml : n' ≤ maxLen := by simp only [maxLen]; omega
          obtain ⟨w', hrun, hown, hgr⟩ := run_make_full (P := Γ.P) (w := w) 0 T e j z te.size hu k1 k2 k4 .i64 .i64 n' (by rw [k5]; omega) hml (Nat.zero_le _)
          refine wp_value (v := .slice (some ⟨w.heap.size, 0, none⟩) n' n') (w' := w') ?_ ?_
          · simp only [execOp, rel_v hx, rel_v hy, Sem.run_bind]
            rw [hrun]; rfl
          · have hb : Below w.heap.size w w' := ⟨hgr.os, hgr.tape, hgr.output, hgr.size, fun k hk => hgr.block k hk (by simp)⟩
            have hzl := (ht e te he3).len
            have hz1 := (ht e te he3).one
            have hzs : z.cells.size = te.size := by rw [← Array.length_toList, k3, hzl]
            refine new_sound H hk hb ⟨w.heap.size, 0, te.size, .slice (some ⟨w.heap.size, 0, none⟩) n' n'⟩ ?_ ?_ ?_
            · refine ⟨_, _, last_get _ _, rfl, rfl, hown, fun b hb => (by have hb' : w.heap.size = b := (by simpa [Value.ownBlock] using hb); exact ⟨hb', .inl (by have := H.mem.frm.size; omega)⟩), fun x hx => ?_, fun i hi => ?_⟩
              · simp only [madeCells, Array.toList_map, List.mem_map] at hx
                obtain ⟨q, hq, rfl⟩ := hx
                rcases Nat.eq_zero_or_pos te.size with h | h
                · rw [h] at hq; simp at hq
                · have hlt : q % z.cells.size < z.cells.size := Nat.mod_lt _ (by omega)
                  rw [getElem!_pos z.cells _ hlt]
                  have : z.cells[q % z.cells.size] ∈ te.zero := by rw [← k3]; simp
                  exact hz1 _ this
              · have e1 : (((madeCells z.cells (n' * te.size)).toList.drop (i * te.size)).take te.size) = te.zero := by
                  apply List.ext_getElem?
                  intro q
                  rw [List.getElem?_take]
                  split
                  · rename_i hq
                    have hin : i * te.size + q < n' * te.size := by
                      have : (i + 1) * te.size ≤ n' * te.size := Nat.mul_le_mul_right _ hi
                      rw [Nat.add_mul] at this; omega
                    rw [List.getElem?_drop]
                    simp only [madeCells, Array.toList_map, List.getElem?_map, Array.toList_range, List.getElem?_range hin, Option.map_some]
                    have hm : (i * te.size + q) % z.cells.size = q := by rw [hzs, Nat.add_comm, Nat.add_mul_mod_self_right]; exact Nat.mod_eq_of_lt hq
                    rw [hm, getElem!_pos z.cells q (by omega), ← k3]
                    simp [hzs, hq]
                  · rename_i hq
                    rw [List.getElem?_eq_none (by omega)]
                rw [e1]
                exact (RelL.plain _ _).2 rfl
            · rintro b ⟨L, hL, hb⟩
              rw [last_get] at hL; cases hL
              simp [Value.ownBlock] at hb; omega
            · simp only [Rel]; exact ⟨_, last_get _ _, rfl, rfl⟩
        · exact h.elim
      · exact h.elim
    · exact h.elim
  · exact h ρ a w Q H

theorem run_append_of_nil' {P : Program} (w : World) (base : Nat) (t ty e : TypeId) (i : TypeInfo) (size : Nat) (ht : P.underlying t = some (.slice e)) (hi : P.info? e = some i)
    (v : Value) (n : Nat) (xs : List Value) (hown : w.ownsRow base e size v n xs) (c : Nat) : (Builtin.append_ #[t, t] ty #[v, .slice none 0 c]).run P w = .ok v w := by
  rcases hown.2 with ⟨rfl, rfl⟩ | ⟨g, cap, cur, rfl, _, _, hnc, _⟩
  · simp [Builtin.append_, run_underlying ht, sizeOf, typeInfo, hi, Builtin.lenOf, Builtin.firstCells]
  · simp [Builtin.append_, run_underlying ht, sizeOf, typeInfo, hi, Builtin.lenOf, Builtin.firstCells, hnc, storeCells]

/-- Where an append takes its elements from. -/
theorem srcOf_sound {B : Bs} {N : Nat} (H : Holds B N ρ s a w) {sz : Nat} {x : SV} {v : Value} (hx : Rel ρ x v) {K : Nat → Nat → (Nat → List SV) → Prop} (h : srcOf s.mem sz x K) :
    ∃ (i m : Nat) (g : Nat → List SV) (A : Option Addr) (k : Nat) (news : List Value), K i m g ∧ v = .slice A m k ∧ news.length = m * sz ∧ (∀ y ∈ news, y.oneCell' = true) ∧ (∀ j, j < m → RelL ρ (g (i + j)) ((news.drop (j * sz)).take sz)) ∧
      (0 < m → ∃ b o, A = some ⟨b, o, none⟩ ∧ ∀ j u, news[j]? = some u → w.cell? ⟨b, o + j, none⟩ = some u) := by
  unfold srcOf at h
  have part : ∀ (L : Loc) (c i n : Nat) (f : Nat → List SV), ρ[c]? = some L → L.sz = sz → (∀ j, j < n → ∃ vs, RelL ρ (f (i + j)) vs ∧ vs.length = sz ∧ (∀ y ∈ vs, y.oneCell' = true) ∧ ∀ q u, vs[q]? = some u → w.cell? ⟨L.blk, L.off + (i + j) * sz + q, none⟩ = some u) →
      ∃ news : List Value, news.length = n * sz ∧ (∀ y ∈ news, y.oneCell' = true) ∧ (∀ j, j < n → RelL ρ (f (i + j)) ((news.drop (j * sz)).take sz)) ∧ ∀ j u, news[j]? = some u → w.cell? ⟨L.blk, L.off + i * sz + j, none⟩ = some u := by
    intro L c i n f hL hs
    induction n with
    | zero => intro _; exact ⟨[], by simp, by simp, fun j hj => absurd hj (by omega), fun j u hu => by simp at hu⟩
    | succ n ih =>
      intro hj
      obtain ⟨news, h1, h2, h3, h4⟩ := ih (fun j hj' => hj j (by omega))
      obtain ⟨vs, r1, r2, r3, r4⟩ := hj n (by omega)
      refine ⟨news ++ vs, by rw [List.length_append, h1, r2, Nat.add_mul]; omega, fun y hy => ?_, fun j hj' => ?_, fun j u hu => ?_⟩
      · rcases List.mem_append.1 hy with h | h
        · exact h2 y h
        · exact r3 y h
      · rcases Nat.lt_or_ge j n with hlt | hge
        · have hle : (j + 1) * sz ≤ n * sz := Nat.mul_le_mul_right _ hlt
          rw [Nat.add_mul] at hle
          rw [List.drop_append_of_le_length (by omega), List.take_append_of_le_length (by simp; omega)]
          exact h3 j hlt
        · have : j = n := by omega
          subst this
          rw [← h1, List.drop_left, List.take_of_length_le (by omega)]
          exact r1
      · rcases Nat.lt_or_ge j (n * sz) with hlt | hge
        · rw [List.getElem?_append_left (by omega)] at hu
          exact h4 j u hu
        · rw [List.getElem?_append_right (by omega), h1] at hu
          have := r4 _ u hu
          rwa [show L.off + (i + n) * sz + (j - n * sz) = L.off + i * sz + j by rw [Nat.add_mul]; omega] at this
  have ownp : ∀ (L : Loc) (c e z n : Nat) (f : Nat → List SV), ChSat B ρ w c (.own e z n f) → ρ[c]? = some L → z = sz → ∀ i, i < n → ∃ vs, RelL ρ (f i) vs ∧ vs.length = sz ∧ (∀ y ∈ vs, y.oneCell' = true) ∧ ∀ q u, vs[q]? = some u → w.cell? ⟨L.blk, L.off + i * sz + q, none⟩ = some u := by
    intro L c e z n f hch hL hz i hi
    subst hz
    obtain ⟨L', vs, h1, h2, h3, h4, h5, h6, h7⟩ := hch
    rw [hL] at h1; cases h1
    refine ⟨(vs.drop (i * z)).take z, h7 i hi, ?_, fun x hx => h6 x (List.mem_of_mem_drop (List.mem_of_mem_take hx)), fun j u hu => ?_⟩
    · have hle : (i + 1) * z ≤ n * z := Nat.mul_le_mul_right _ hi
      have := h4.1
      rw [Nat.add_mul] at hle
      simp; omega
    · have hj : j < z := by
        rcases Nat.lt_or_ge j z with hlt | hge
        · exact hlt
        · rw [List.getElem?_take, if_neg (by omega)] at hu; cases hu
      rw [List.getElem?_take_of_lt hj, List.getElem?_drop] at hu
      rcases h4.2 with ⟨_, hn⟩ | ⟨g, cap, cur, hv, _⟩
      · omega
      · have hg : L.own.ownBlock = some g := by rw [hv]; rfl
        have hc := h4.cells (g := g) hg (i * z + j) u hu
        rw [Addr.add_lit] at hc
        rw [h3, (h5 g hg).1]
        simpa using hc
  split at h
  · rename_i c i n
    obtain ⟨L, A, k, hL, hv, hn, hc, hA⟩ := rel_s hx
    have hch := H.mem.ch c
    split at h
    · rename_i z nn f hm
      rw [hm] at hch
      cases hb : Nat.beq z sz with
      | false => rw [hb] at h; exact h.elim
      | true =>
        rw [hb] at h
        have hz := Nat.eq_of_beq_eq_true hb
        subst hz
        obtain ⟨hle, hk⟩ := h
        obtain ⟨L', k1, k2, k3, k4⟩ := hch
        rw [hL] at k1; cases k1
        obtain ⟨news, h1, h2, h3, h4⟩ := part L c i n f hL k2 (fun j hj => k4 (i + j) (by omega))
        exact ⟨i, n, f, A, k, news, hk, hv, h1, h2, h3, fun hp => ⟨_, _, hA hp, by rw [k2]; exact h4⟩⟩
    · rename_i e z nn f hm
      rw [hm] at hch
      cases hb : Nat.beq z sz with
      | false => rw [hb] at h; exact h.elim
      | true =>
        rw [hb] at h
        have hz := Nat.eq_of_beq_eq_true hb
        obtain ⟨hle, hk⟩ := h
        have ho := ownp L c e z nn f hch hL hz
        have hs : L.sz = sz := (own_form hch hL).1.trans hz
        obtain ⟨news, h1, h2, h3, h4⟩ := part L c i n f hL hs (fun j hj => ho (i + j) (by omega))
        exact ⟨i, n, f, A, k, news, hk, hv, h1, h2, h3, fun hp => ⟨_, _, hA hp, by rw [hs]; exact h4⟩⟩
    · exact h.elim
  · rename_i c
    obtain ⟨L, hL, hv⟩ := rel_o hx
    have hch := H.mem.ch c
    split at h
    · rename_i e z nn f hm
      rw [hm] at hch
      cases hb : Nat.beq z sz with
      | false => rw [hb] at h; exact h.elim
      | true =>
        rw [hb] at h
        have hz := Nat.eq_of_beq_eq_true hb
        have ho := ownp L c e z nn f hch hL hz
        obtain ⟨hs, hoff, A, k, hv', hn, hc, hA, _⟩ := own_form hch hL
        obtain ⟨news, h1, h2, h3, h4⟩ := part L c 0 nn f hL (hs.trans hz) (fun j hj => ho (0 + j) (by omega))
        exact ⟨0, nn, f, A, k, news, h, hv.trans hv', h1, h2, h3, fun hp => ⟨_, _, by rw [hA hp], fun j u hu => by have := h4 j u hu; rwa [hoff, Nat.zero_mul, Nat.add_zero] at this⟩⟩
    · exact h.elim
  · exact ⟨0, 0, _, none, 0, [], h, rel_v hx, by simp, by simp, fun j hj => absurd hj (by omega), fun hp => absurd hp (by omega)⟩
  · exact h.elim

theorem app_sound (ht : Tab.ok Γ.P Γ.tab) (H : Holds Γ.B Γ.N ρ s a w) {T e : Nat} {ti te : TI} {x y : Operand} {n : Nat} {f : Nat → List SV} {s' : St} {v : Value} {xs : List Value} (hT : tget Γ.tab T = some ti) (hde : ti.d = .sl e) (he : tget Γ.tab e = some te) (hpos : 0 < te.size)
    (hv : a.eval x = v) (hown : w.ownsRow 0 e te.size v n xs) (hvm : ∀ b, v.ownBlock = some b → Γ.B.May b) (hfx : ∀ j, j < n → RelL ρ (f j) ((xs.drop (j * te.size)).take te.size)) (hx1 : ∀ z ∈ xs, z.oneCell' = true)
    (hs' : Holds Γ.B Γ.N ρ s' a w) (hfree : ∀ d b, Occ ρ d (mget s'.mem d) b → v.ownBlock ≠ some b)
    (h : srcOf s.mem te.size (ev s y) fun i m g => ((n + m) * te.bytes ≤ 140737488355328 ∧ n + m ≤ 9223372036854775807) ∧ ∃ f' : Nat → List SV, (∀ j, j < n → f' j = f j) ∧ (∀ j, j < m → f' (n + j) = g (i + j)) ∧ putN Γ.N s' dst (.own e te.size (n + m) f') .o K) :
    Oper.wp Γ.P ⟨dst, .call ⟨.builtin .append, #[x, y], #[T, T]⟩, ty, pos, after, guard⟩ a w (After Γ K) Q := by
  obtain ⟨i, m, g, A, k, news, ⟨⟨hb1, hb2⟩, f', hf1, hf2, hk⟩, hvy, hnl, hn1, hng, hnc⟩ := srcOf_sound H (H.ev y) h
  obtain ⟨desc, hu, hd⟩ := tab_und ht hT
  rw [hde] at hd
  simp only [TD.ok] at hd
  subst hd
  obtain ⟨j, z, k1, k2, k3, k4, k5⟩ := (ht e te he).info
  have hzs : z.cells.size = te.size := by rw [← Array.length_toList, k3, (ht e te he).len]
  have hml : n + m ≤ maxLen := by simp only [maxLen]; omega
  have main : ∃ v' w', (Builtin.append_ #[T, T] ty #[v, .slice A m k]).run Γ.P w = .ok v' w' ∧ w'.ownsRow 0 e te.size v' (n + m) (xs ++ news) ∧ w.grownBy w' v.ownBlock ∧ (v'.ownBlock = v.ownBlock ∨ v'.ownBlock = some w.heap.size) := by
    cases A with
    | none =>
      have hm : m = 0 := by
        rcases Nat.eq_zero_or_pos m with h | h
        · exact h
        · obtain ⟨b, o, hA, _⟩ := hnc h; cases hA
      subst hm
      have : news = [] := List.eq_nil_of_length_eq_zero (by simpa using hnl)
      subst this
      exact ⟨v, w, run_append_of_nil' w 0 T ty e j te.size hu k1 v n xs hown k, by simpa using hown, World.grownBy.refl w _, .inl rfl⟩
    | some ad =>
      have hcells : ∀ q u, news[q]? = some u → w.cell? (ad.add q) = some u := by
        intro q u hq
        rcases Nat.eq_zero_or_pos m with h | h
        · subst h
          have : news = [] := List.eq_nil_of_length_eq_zero (by simpa using hnl)
          subst this
          simp at hq
        · obtain ⟨b, o, hA, hc⟩ := hnc h
          cases hA
          rw [Addr.add_lit]
          exact hc q u hq
      obtain ⟨v', w', hr, h2, h3, _, h5⟩ := run_append_own_at (P := Γ.P) w 0 T ty e j z te.size te.bytes hu k1 k2 k4 k5 hzs hpos v n xs hown ad m k news hnl hcells hn1 hml hb1 (Nat.zero_le _)
      exact ⟨v', w', hr, h2, h3, h5⟩
  obtain ⟨v', w', hrun, hown', hgr, hbl⟩ := main
  refine wp_value (v := v') (w' := w') ?_ ?_
  · simp [execOp, resolve, invoke, builtin, hv, hvy, hrun]
  · obtain ⟨fr, mem, nx⟩ := s'
    have ex := Ext.app ρ [(⟨v'.ownBlock.getD 0, 0, te.size, v'⟩ : Loc)]
    have hm1 : MSat Γ.B ρ mem w' := hs'.mem.grow (fun c b o => hgr.block b (hs'.mem.occ_lt o) (fun e => hfree c b o e.symm)) hgr.size
      (H.mem.frm.step hgr.os hgr.tape hgr.output hgr.size (fun k hk hx => hgr.block k (Nat.lt_of_lt_of_le hk H.mem.frm.size) (fun e => by rcases hvm k e.symm with h | h; omega; exact hx h)))
    have hxl : xs.length = n * te.size := hown.1
    have hvm' : ∀ b, v'.ownBlock = some b → Γ.B.May b := by
      intro b hb
      rcases hbl with h | h
      · exact hvm b (by rw [← h]; exact hb)
      · rw [h] at hb; cases hb; exact .inl H.mem.frm.size
    have hch : ChSat Γ.B (ρ ++ [⟨v'.ownBlock.getD 0, 0, te.size, v'⟩]) w' ρ.length (.own e te.size (n + m) f') := by
      refine ⟨_, xs ++ news, last_get _ _, rfl, rfl, hown', fun b hb => ⟨by simp [hb], hvm' b hb⟩, fun z hz => ?_, fun q hq => ?_⟩
      · rcases List.mem_append.1 hz with h | h
        · exact hx1 z h
        · exact hn1 z h
      · refine RelL.mono ex _ _ ?_
        rcases Nat.lt_or_ge q n with hlt | hge
        · have hle : (q + 1) * te.size ≤ n * te.size := Nat.mul_le_mul_right _ hlt
          rw [Nat.add_mul] at hle
          rw [hf1 q hlt, List.drop_append_of_le_length (by omega), List.take_append_of_le_length (by simp; omega)]
          exact hfx q hlt
        · obtain ⟨r, rfl⟩ : ∃ r, q = n + r := ⟨q - n, by omega⟩
          rw [hf2 r (by omega), Nat.add_mul, List.drop_append, ← hxl, List.drop_of_length_le (by omega), List.nil_append]
          rw [show xs.length + r * te.size - xs.length = r * te.size by omega]
          exact hng r (by omega)
    have hm2 : MSat Γ.B (ρ ++ [⟨v'.ownBlock.getD 0, 0, te.size, v'⟩]) ((ρ.length, .own e te.size (n + m) f') :: mem) w' := hm1.add _ _ hch (fun c b _ o o' => by
      obtain ⟨L, hL, hb⟩ := o'
      rw [last_get] at hL; cases hL
      simp only at hb
      rcases hbl with h | h
      · rw [h] at hb; exact hfree c b o hb
      · rw [h] at hb; cases hb
        have := hs'.mem.occ_lt o
        simp at this) (fun b o => by
      obtain ⟨L, hL, hb⟩ := o
      rw [last_get] at hL; cases hL
      exact hvm' b hb)
    have hnx : ρ.length = nx := hs'.nx
    have H' : Holds Γ.B Γ.N (ρ ++ [⟨v'.ownBlock.getD 0, 0, te.size, v'⟩]) ⟨fr, (nx, .own e te.size (n + m) f') :: mem, nx + 1⟩ a w' :=
      ⟨by simp [hnx], fun t => (hs'.fr t).mono ex, hs'.size, hs'.dfr, by rw [← hnx]; exact hm2⟩
    have hvo : v'.oneCell' = true := by
      rcases hown'.2 with ⟨h, _⟩ | ⟨g, cap, cur, h, _⟩ <;> rw [h] <;> rfl
    simp only [putN, fch_eq, fnat_eq] at hk
    obtain ⟨s'', hk', h', _, _⟩ := put_sound H' (x := .o nx) (v := v') (by simp only [Rel]; exact ⟨_, by rw [← hnx]; exact last_get _ _, rfl, hvo⟩) hk
    exact ⟨s'', _, hk', h'⟩

theorem e_append (ht : Tab.ok Γ.P Γ.tab) (H : Holds Γ.B Γ.N ρ s a w) {args : Array Operand} {tys : Array TypeId} (h : vcOp Γ s ⟨dst, .call ⟨.builtin .append, args, tys⟩, ty, pos, after, guard⟩ K) :
    Oper.wp Γ.P ⟨dst, .call ⟨.builtin .append, args, tys⟩, ty, pos, after, guard⟩ a w (After Γ K) Q := by
  simp only [vcOp] at h
  split at h
  · rename_i x y T T' hargs htys
    have ea : args = #[x, y] := by cases args; simpa using hargs
    have et : tys = #[T, T'] := by cases tys; simpa using htys
    subst ea et
    cases hb : Nat.beq T T' with
    | false => rw [hb] at h; exact h ρ a w Q H
    | true =>
      rw [hb] at h
      have := Nat.eq_of_beq_eq_true hb
      subst this
      simp only [cond_true] at h
      split at h
      · rename_i ti hT
        split at h
        · rename_i e hde
          split at h
          · rename_i te he
            cases hp : Nat.blt 0 te.size with
            | false => rw [hp] at h; exact h.elim
            | true =>
              rw [hp] at h
              simp only [cond_true] at h
              have hpos := blt_lt hp
              have hx := H.ev x
              split at h
              · rename_i c hex
                rw [hex] at hx
                obtain ⟨L, hL, hv⟩ := rel_o hx
                have hch := H.mem.ch c
                split at h
                · rename_i e' sz n f hm
                  rw [hm] at hch
                  cases hb2 : (Nat.beq e' e && Nat.beq sz te.size) with
                  | false => rw [hb2] at h; exact h.elim
                  | true =>
                    rw [hb2] at h
                    simp only [Bool.and_eq_true] at hb2
                    have h1 := Nat.eq_of_beq_eq_true hb2.1
                    have h2 := Nat.eq_of_beq_eq_true hb2.2
                    subst h1 h2
                    obtain ⟨fr, mem, nx⟩ := s
                    obtain ⟨L', xs, k1, k2, k3, k4, k5, k6, k7⟩ := hch
                    rw [hL] at k1; cases k1
                    refine app_sound ht H hT hde he hpos hv k4 (fun b hb => (k5 b hb).2) k7 k6 (s' := ⟨fr, (c, .non) :: mem, nx⟩) ⟨H.nx, H.fr, H.size, H.dfr, H.mem.drop c⟩ ?_ h
                    intro d b o e
                    rw [mget_cons] at o
                    split at o
                    · exact o.elim
                    · rename_i hne
                      refine H.mem.sep c d b hne (by simp only at hm; rw [hm]; rfl) (by simp only at hm; rw [hm]; exact ⟨L, hL, e⟩) o
                · exact h.elim
              · rename_i hex
                rw [hex] at hx
                exact app_sound ht H hT hde he hpos (rel_v hx) (World.ownsRow_nil w _ _ _) (fun b hb => by cases hb) (fun j hj => absurd hj (by omega)) (by simp) (s' := s) H (fun d b _ e => by cases e) h
              · exact h ρ a w Q H
          · exact h.elim
        · exact h ρ a w Q H
      · exact h.elim
  · exact h ρ a w Q H

theorem e_call (H : Holds Γ.B Γ.N ρ s a w) {f : Operand} {args : Array Operand} {tys : Array TypeId} (h : vcOp Γ s ⟨dst, .call ⟨.value f, args, tys⟩, ty, pos, after, guard⟩ K) :
    Oper.wp Γ.P ⟨dst, .call ⟨.value f, args, tys⟩, ty, pos, after, guard⟩ a w (After Γ K) Q := by
  simp only [vcOp] at h
  split at h
  · rename_i g caps he
    have hf := H.ev f
    rw [he] at hf
    obtain ⟨vs, hv, hr⟩ := rel_f hf
    obtain ⟨⟨fn, hfn, hname, hbody⟩, hcall⟩ := h
    have := hcall ρ a w (args.toList.map a.eval ++ vs) H ((relL_map H _).append hr)
    have hex : (execOp a.eval ⟨dst, .call ⟨.value f, args, tys⟩, ty, pos, after, guard⟩).run Γ.P w = .ok (.enter g (args.toList.map a.eval ++ vs).toArray) w := by
      have e1 : (args.toList.map a.eval ++ vs).toArray = args.map a.eval ++ vs.toArray := by cases args; simp
      simp only [execOp, resolve, hv, Deferred.ofValue, invoke, Sem.run_bind, Sem.run_pure, Result.andThen_ok, callFunc, run_program, hfn, hname, hbody]
      simp [e1]
    unfold Oper.wp
    rw [hex]
    simp only [Oper.upon]
    refine this.mono ?_
    rintro e w' ⟨v, x, s', ρ', rfl, hext, hx, hk, H'⟩
    simp only
    obtain ⟨s'', hk', h', _, _⟩ := put_sound H' hx hk
    exact ⟨s'', ρ', hk', h'⟩
  · exact h ρ a w Q H
end
end Go.Proofs.YtiihmggoebohkaaDoor.Vc
