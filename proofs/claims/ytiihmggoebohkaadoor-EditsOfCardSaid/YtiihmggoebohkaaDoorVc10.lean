/- Verification conditions by symbolic execution: stores, slices that are made, appends, calls: sound. -/
import Derived.Test.YtiihmggoebohkaaDoorVc9
namespace Go.Proofs.YtiihmggoebohkaaDoor.Vc
open Go Go.RowKit

section
variable {Γ : Cx} {ρ : List Loc} {s : St} {a : Act} {w : World} {K : St → Prop} {dst : Option Nat} {ty : TypeId} {pos : String} {after : Array Edge} {guard : Option (Nat × Bool)} {Q : Exit → Act → World → Prop}

theorem setV_len : ∀ (q l : List Value) (o : Nat), (setV l o q).length = l.length
  | [], l, o => rfl
  | x :: r, l, o => by simp [setV, setV_len r]

/-- A row of cells is stored, cell by cell, into a block that is known whole. -/
theorem run_storeRow {P : Program} (g T : Nat) : ∀ (q : List Value) (i o : Nat) (cells : List Value) (w : World), w.heap[g]? = some (.cells cells.toArray T (0, 0)) → o + i + q.length ≤ cells.length → (∀ x ∈ q, x.oneCell' = true) →
    ∃ w', (storeCells ⟨g, o, none⟩ q i).run P w = .ok () w' ∧ w'.heap[g]? = some (.cells (setV cells (o + i) q).toArray T (0, 0)) ∧ (∀ k, k ≠ g → w'.heap[k]? = w.heap[k]?) ∧ w'.heap.size = w.heap.size ∧ w'.os = w.os ∧ w'.tape = w.tape ∧ w'.output = w.output
  | [], i, o, cells, w, hg, _, _ => ⟨w, by simp [storeCells], by simpa [setV] using hg, fun _ _ => rfl, rfl, rfl, rfl, rfl⟩
  | x :: r, i, o, cells, w, hg, hle, h1 => by
    have ha : (⟨g, o, none⟩ : Addr).add i = ⟨g, o + i, none⟩ := Addr.add_lit g o i
    have hlt : o + i < cells.length := by simp at hle; omega
    have hcell : w.cell? ⟨g, o + i, none⟩ = some cells[o + i] := by simp [World.cell?, hg, hlt]
    have hfr : w.frozen? ⟨g, o + i, none⟩ = false := by simp [World.frozen?, hg]
    have hset : (w.setCell ⟨g, o + i, none⟩ x).heap[g]? = some (.cells (cells.set (o + i) x).toArray T (0, 0)) := by
      simp [World.setCell, Array.getElem?_modify, hg]
    obtain ⟨w', hr, h2, h3, h4, h5, h6, h7⟩ := run_storeRow (P := P) g T r (i + 1) o (cells.set (o + i) x) (w.setCell ⟨g, o + i, none⟩ x) hset (by simp at hle ⊢; omega) (fun y hy => h1 y (by simp [hy]))
    refine ⟨w', ?_, ?_, fun k hk => ?_, ?_, h5, h6, h7⟩
    · simp only [storeCells, ha, Sem.run_bind]
      rw [run_store P w _ x .plain (h1 x (by simp))]
      simp [hcell, hfr, hr]
    · simpa [setV, Nat.add_assoc] using h2
    · rw [h3 k hk, Below.heap_setCell _ _ _ _ (by simpa using hk)]
    · rw [h4]; simp [World.setCell]

theorem run_storeVar_row' {P : Program} {tab : Tab} (ht : Tab.ok P tab) {T : Nat} {ti : TI} (hT : tget tab T = some ti) {v : Value} {vs : List Value} (hv : v.cells = vs.toArray) (hl : vs.length = ti.size) {g o te : Nat} {cells : List Value} {w : World}
    (hg : w.heap[g]? = some (.cells cells.toArray te (0, 0))) (hle : o + vs.length ≤ cells.length) (h1 : ∀ x ∈ vs, x.oneCell' = true) :
    ∃ w', (storeVar T ⟨g, o, none⟩ v).run P w = .ok () w' ∧ w'.heap[g]? = some (.cells (setV cells o vs).toArray te (0, 0)) ∧ (∀ k, k ≠ g → w'.heap[k]? = w.heap[k]?) ∧ w'.heap.size = w.heap.size ∧ w'.os = w.os ∧ w'.tape = w.tape ∧ w'.output = w.output := by
  obtain ⟨w', hr, h⟩ := run_storeRow (P := P) g te vs 0 o cells w hg (by simpa using hle) h1
  refine ⟨w', ?_, by simpa using h⟩
  have hsz := tab_size ht hT w
  simp [storeVar, hsz, hv, hl, hr]

theorem setV_take (q : List Value) : ∀ (l : List Value) (o k : Nat), o + q.length ≤ k → (setV l o q).take k = setV (l.take k) o q := by
  induction q with
  | nil => intro l o k _; rfl
  | cons x r ih =>
    intro l o k h
    simp only [setV]
    rw [ih _ _ _ (by simp at h ⊢; omega)]
    rw [List.take_set]
theorem setV_get (q : List Value) : ∀ (l : List Value) (o j : Nat), (j < o ∨ o + q.length ≤ j) → (setV l o q)[j]? = l[j]? := by
  induction q with
  | nil => intro l o j _; rfl
  | cons x r ih =>
    intro l o j h
    simp only [setV]
    rw [ih _ _ _ (by simp at h ⊢; omega), List.getElem?_set_ne (by simp at h; omega)]
/-- A part of a row that is not written stays. -/
theorem setV_part_other (q l : List Value) (p n o : Nat) (h : o + q.length ≤ p ∨ p + n ≤ o) : ((setV l o q).drop p).take n = (l.drop p).take n := by
  apply List.ext_getElem?
  intro j
  simp only [List.getElem?_take, List.getElem?_drop]
  split
  · exact setV_get q l o (p + j) (by omega)
  · rfl
theorem setV_drop (q : List Value) : ∀ (l : List Value) (p d : Nat), (setV l (p + d) q).drop p = setV (l.drop p) d q := by
  induction q with
  | nil => intro l p d; rfl
  | cons x r ih =>
    intro l p d
    simp only [setV]
    rw [show p + d + 1 = p + (d + 1) by omega, ih, List.drop_set, if_neg (by omega)]
    congr 2
    omega
/-- The part that is written. -/
theorem setV_part_same (q l : List Value) (p n d : Nat) (h : d + q.length ≤ n) : ((setV l (p + d) q).drop p).take n = setV ((l.drop p).take n) d q := by
  rw [setV_drop, setV_take _ _ _ _ h]

theorem e_store (ht : Tab.ok Γ.P Γ.tab) (H : Holds Γ.B Γ.N ρ s a w) {T : Nat} {x y : Operand} (h : vcOp Γ s ⟨dst, .store T x y, ty, pos, after, guard⟩ K) : Oper.wp Γ.P ⟨dst, .store T x y, ty, pos, after, guard⟩ a w (After Γ K) Q := by
  simp only [vcOp] at h
  have hx := H.ev x
  have hy := H.ev y
  split at h
  · rename_i c i d he
    rw [he] at hx
    obtain ⟨L, hL, hv⟩ := rel_p hx
    split at h
    · exact h.elim
    · rename_i ti hT
      have fin : ∀ (q : List SV) (vs : List Value), (a.eval y).cells = vs.toArray → RelL ρ q vs → (∀ z ∈ vs, z.oneCell' = true) → q.length = ti.size →
          (match mget s.mem c with
            | .box t l => bif Nat.beq i 0 && Nat.ble (d + q.length) l.length then frc (setSeg l d q) fun l' => (match s with | ⟨fr, mem, nx⟩ => K ⟨fr, (c, .box t l') :: mem, nx⟩) else False
            | .own e sz n f => i < n ∧ (bif Nat.ble (d + q.length) sz then ∃ f' : Nat → List SV, f' i = setSeg (f i) d q ∧ (∀ j, j < n → j ≠ i → f' j = f j) ∧ (match s with | ⟨fr, mem, nx⟩ => K ⟨fr, (c, .own e sz n f') :: mem, nx⟩) else False)
            | _ => False) → Oper.wp Γ.P ⟨none, .store T x y, ty, pos, after, guard⟩ a w (After Γ K) Q := by
        intro q vs hc hr h1 hql h
        have hch := H.mem.ch c
        obtain ⟨fr, mem, nx⟩ := s
        have hlen := hr.length
        -- the store, into block g, whose cells are 'cells'
        have step : ∀ (g o te : Nat) (cells : List Value) (ch' : Ch), w.heap[g]? = some (.cells cells.toArray te (0, 0)) → L.blk = g → L.off + i * L.sz + d = o → o + vs.length ≤ cells.length → (mget mem c).wr = true → (∀ b, Occ ρ c ch' b → Occ ρ c (mget mem c) b) → Occ ρ c (mget mem c) g →
            (Γ.B.w0.heap.size ≤ g ∨ Γ.B.X g) → (∀ w' : World, w'.heap[g]? = some (.cells (setV cells o vs).toArray te (0, 0)) → (∀ k, k ≠ g → w'.heap[k]? = w.heap[k]?) → w'.heap.size = w.heap.size → ChSat Γ.B ρ w' c ch') → K ⟨fr, (c, ch') :: mem, nx⟩ →
            Oper.wp Γ.P ⟨none, .store T x y, ty, pos, after, guard⟩ a w (After Γ K) Q := by
          intro g o te cells ch' hg hb ho hle hw hocc hog hfr hcs hk
          obtain ⟨w', hrun, h2, h3, h4, h5, h6, h7⟩ := run_storeVar_row' ht hT hc (hlen.trans hql) hg hle h1
          have hex : (execOp a.eval ⟨none, .store T x y, ty, pos, after, guard⟩).run Γ.P w = .ok .skip w' := by
            simp [execOp, Instr.storeAt, hv, Instr.sureAddr, hb, ho, hrun]
          unfold Oper.wp
          rw [hex]
          refine ⟨_, ρ, hk, ⟨H.nx, H.fr, H.size, H.dfr, H.mem.upd c ch' hw hocc (fun k hk => h3 k (fun e => hk (by rw [e]; exact hog))) (by omega) (H.mem.frm.step h5 h6 h7 (by omega) (fun k hk hx => h3 k ?_)) (hcs w' h2 h3 h4)⟩⟩
          rintro rfl
          rcases hfr with hfr | hfr
          · omega
          · exact hx hfr
        split at h
        · rename_i t l hm
          simp only at hm hch
          rw [hm] at hch
          obtain ⟨L', us, k1, k2, k3, k4, k5, k6, k7⟩ := hch
          rw [hL] at k1; cases k1
          cases hb : (Nat.beq i 0 && Nat.ble (d + q.length) l.length) with
          | false => rw [hb] at h; exact h.elim
          | true =>
            rw [hb] at h
            simp only [Bool.and_eq_true] at hb
            have hi0 := Nat.eq_of_beq_eq_true hb.1
            subst hi0
            have hb := hb.2
            simp only [cond_true, frc_eq] at h
            have hul := k5.length
            have hle := Nat.le_of_ble_eq_true hb
            refine step L.blk d t us (.box t (setSeg l d q)) k4 rfl (by rw [k2]; omega) (by omega) (by rw [hm]; rfl) (by rw [hm]; exact fun b o => o) (by rw [hm]; exact ⟨L, hL, rfl⟩) k7 ?_ h
            intro w' e1 _ _
            exact ⟨L, _, hL, k2, by rw [setSeg_len]; exact k3, e1, setSeg_rel hr d k5, setV_mem _ _ _ k6 h1, k7⟩
        · rename_i e sz n f hm
          simp only at hm hch
          rw [hm] at hch
          obtain ⟨hi, h⟩ := h
          cases hb : Nat.ble (d + q.length) sz with
          | false => rw [hb] at h; exact h.elim
          | true =>
            rw [hb] at h
            obtain ⟨f', hf1, hf2, hk⟩ := h
            have hle := Nat.le_of_ble_eq_true hb
            obtain ⟨L', us, k1, k2, k3, k4, k5, k6, k7⟩ := hch
            rw [hL] at k1; cases k1
            obtain ⟨kl, kr⟩ := k4
            rcases kr with ⟨_, hn⟩ | ⟨g, cap, cur, hv', hbg, hg, hnc, hcm, hcs, htk⟩
            · omega
            · obtain ⟨hgb, hmay⟩ := k5 g (by rw [hv']; rfl)
              have hmul : (i + 1) * sz ≤ n * sz := Nat.mul_le_mul_right _ hi
              have hmul2 : n * sz ≤ cap * sz := Nat.mul_le_mul_right _ hnc
              have hexp : (i + 1) * sz = i * sz + sz := by rw [Nat.add_mul, Nat.one_mul]
              have hcl : cur.toList.length = cap * sz := by simpa using hcs
              refine step g (i * sz + d) e cur.toList (.own e sz n f') (by simpa using hg) hgb (by rw [k3, k2]; omega) (by omega) (by rw [hm]; rfl) (by rw [hm]; exact fun b o => o) (by rw [hm]; exact ⟨L, hL, by rw [hv']; rfl⟩) hmay ?_ hk
              intro w' e1 _ _
              refine ⟨L, setV us (i * sz + d) vs, hL, k2, k3, ⟨by rw [setV_len]; exact kl, .inr ⟨g, cap, _, hv', hbg, e1, hnc, hcm, by simp [setV_len]; exact hcs, ?_⟩⟩, k5, setV_mem _ _ _ k6 h1, ?_⟩
              · rw [List.toList_toArray, setV_take _ _ _ _ (by omega), htk]
              · intro j hj
                by_cases hji : j = i
                · subst hji
                  rw [hf1, setV_part_same _ _ _ _ _ (by omega)]
                  exact setSeg_rel hr d (k7 j hj)
                · rw [hf2 j hj hji, setV_part_other]
                  · exact k7 j hj
                  · rcases Nat.lt_or_gt_of_ne hji with hlt | hgt
                    · right
                      have : (j + 1) * sz ≤ i * sz := Nat.mul_le_mul_right _ hlt
                      rw [Nat.add_mul] at this; omega
                    · left
                      have : (i + 1) * sz ≤ j * sz := Nat.mul_le_mul_right _ hgt
                      omega
        · exact h.elim
      split at h
      · rename_i q he2
        rw [he2] at hy
        obtain ⟨vs, hv2, hr, h1⟩ := rel_a hy
        cases hb : Nat.beq q.length ti.size with
        | false => rw [hb] at h; exact h.elim
        | true => rw [hb] at h; exact fin q vs (by rw [hv2]; rfl) hr h1 (Nat.eq_of_beq_eq_true hb) h
      · cases hb : (Nat.beq ti.size 1 && (ev s y).one) with
        | false => rw [hb] at h; exact h.elim
        | true =>
          rw [hb] at h
          simp only [Bool.and_eq_true] at hb
          have h1 := hy.one hb.2
          refine fin [ev s y] [a.eval y] ?_ ?_ ?_ (by have := Nat.eq_of_beq_eq_true hb.1; simp [this]) h
          · cases hxx : a.eval y <;> first | rfl | (rw [hxx] at h1; cases h1)
          · simp only [RelL]; exact ⟨_, _, rfl, hy, rfl⟩
          · intro z hz; simp at hz; subst hz; exact h1
  · exact h ρ a w Q H
end
end Go.Proofs.YtiihmggoebohkaaDoor.Vc
