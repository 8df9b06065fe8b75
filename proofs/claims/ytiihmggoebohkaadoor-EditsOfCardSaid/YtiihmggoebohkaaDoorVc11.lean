/- Verification conditions by symbolic execution: slices that are made, appends, calls: sound. -/
import Derived.Test.YtiihmggoebohkaaDoorVc10
namespace Go.Proofs.YtiihmggoebohkaaDoor.Vc
open Go Go.RowKit

section
variable {Γ : Cx} {ρ : List Loc} {s : St} {a : Act} {w : World} {K : St → Prop} {dst : Option Nat} {ty : TypeId} {pos : String} {after : Array Edge} {guard : Option (Nat × Bool)} {Q : Exit → Act → World → Prop}

/-- The cells of a slice that is written out: one element behind the other. -/
theorem litS_sound (H : Holds Γ.B Γ.N ρ s a w) {sz : Nat} : ∀ (parts : List (Nat × Operand)) (k : Nat) (l : List (List SV)) (K : List (List SV) → Prop) (us : List Value), litS s sz k parts l K → RelL ρ l.reverse.flatten us → (∀ q ∈ l, q.length = sz) → (∀ x ∈ us, x.oneCell' = true) → l.length = k →
    ∃ l' vs, K l' ∧ RelL ρ l'.flatten vs ∧ l'.length = k + parts.length ∧ (∀ q ∈ l', q.length = sz) ∧ (∀ x ∈ vs, x.oneCell' = true) ∧
      ∀ (cells : List Value), cells.take (k * sz) = us → cells.length = (k + parts.length) * sz → Instr.fill (fun i => some (i * sz, sz)) cells.toArray (parts.map fun (i, x) => (i, a.eval x)) = some vs.toArray
  | [], k, l, K, us, h, hr, hq, h1, hk => by
    refine ⟨l.reverse, us, h, hr, by simp [hk], fun q hq' => hq q (by simpa using hq'), h1, fun cells hc hl => ?_⟩
    have : cells = us := by rw [← hc]; simp at hl; rw [List.take_of_length_le (by omega)]
    subst this
    simp [Instr.fill]
  | (i, x) :: r, k, l, K, us, h, hr, hq, h1, hk => by
    simp only [litS] at h
    cases hb : Nat.beq i k with
    | false => rw [hb] at h; exact h.elim
    | true =>
      rw [hb] at h
      have hik := Nat.eq_of_beq_eq_true hb
      subst hik
      simp only [cond_true] at h
      have hx := H.ev x
      have step : ∀ (q : List SV) (vs : List Value), (a.eval x).cells = vs.toArray → RelL ρ q vs → q.length = sz → (∀ y ∈ vs, y.oneCell' = true) → litS s sz (i + 1) r (q :: l) K →
          ∃ l' vs, K l' ∧ RelL ρ l'.flatten vs ∧ l'.length = i + ((i, x) :: r).length ∧ (∀ q ∈ l', q.length = sz) ∧ (∀ x ∈ vs, x.oneCell' = true) ∧
            ∀ (cells : List Value), cells.take (i * sz) = us → cells.length = (i + ((i, x) :: r).length) * sz → Instr.fill (fun i => some (i * sz, sz)) cells.toArray (((i, x) :: r).map fun (i, x) => (i, a.eval x)) = some vs.toArray := by
        intro q vs hc hrq hql h1q h
        have hlen := hrq.length
        obtain ⟨l', ws, k1, k2, k3, k4, k5, k6⟩ := litS_sound H r (i + 1) (q :: l) K (us ++ vs) h (by simpa using hr.append hrq) (by intro q' hq'; rcases List.mem_cons.1 hq' with rfl | h'; exact hql; exact hq q' h')
          (by intro y hy; rcases List.mem_append.1 hy with h' | h'; exact h1 y h'; exact h1q y h') (by simp [hk])
        refine ⟨l', ws, k1, k2, by simp at k3 ⊢; omega, k4, k5, fun cells hc2 hl2 => ?_⟩
        have hul : us.length = i * sz := by rw [← hc2]; simp [hl2, List.length_cons]
        have hexp : (i + (r.length + 1)) * sz = i * sz + sz + r.length * sz := by rw [Nat.add_mul, Nat.add_mul, Nat.one_mul]; omega
        simp only [List.map_cons, Instr.fill, hc, List.size_toArray]
        rw [if_neg (by simp only [Bool.or_eq_true, decide_eq_true_eq, List.length_cons] at hl2 ⊢; omega), fold_arr]
        have := k6 (setV cells (i * sz) vs) ?_ ?_
        · simpa using this
        · have hss : (i + 1) * sz = i * sz + vs.length := by rw [Nat.add_mul, Nat.one_mul, hlen, hql]
          rw [hss]
          apply List.ext_getElem?
          intro j
          rw [List.getElem?_take]
          split
          · rename_i hj
            rcases Nat.lt_or_ge j (i * sz) with hlt | hge
            · rw [setV_get _ _ _ _ (.inl hlt), List.getElem?_append_left (by omega), ← hc2, List.getElem?_take, if_pos hlt]
            · rw [List.getElem?_append_right (by omega), hul]
              have := setV_part_same vs cells (i * sz) vs.length 0 (by omega)
              have h2 : (((setV cells (i * sz + 0) vs).drop (i * sz)).take vs.length)[j - i * sz]? = (setV cells (i * sz) vs)[j]? := by
                rw [List.getElem?_take, if_pos (by omega), List.getElem?_drop, Nat.add_zero]
                congr 1; omega
              rw [← h2, this]
              have h3 : setV ((cells.drop (i * sz)).take vs.length) 0 vs = vs := by
                have hcl : ((cells.drop (i * sz)).take vs.length).length = vs.length := by simp [hl2, List.length_cons]; omega
                have gen : ∀ (vs l p : List Value), l.length = vs.length → setV (p ++ l) p.length vs = p ++ vs := by
                  intro vs
                  induction vs with
                  | nil => intro l p h; simp [setV]; simpa using h
                  | cons v r ih =>
                    intro l p h
                    match l, h with
                    | u :: l', h =>
                      simp only [setV]
                      have := ih l' (p ++ [v]) (by simpa using h)
                      simp at this
                      rw [List.set_append_right _ _ (Nat.le_refl _)]
                      simpa using this
                simpa using gen vs _ [] hcl
              rw [h3]
          · rename_i hj
            rw [List.getElem?_eq_none]
            simp; omega
        · rw [setV_len, hl2]; simp only [List.length_cons]; congr 1; omega
      split at h
      · rename_i q he
        rw [he] at hx
        obtain ⟨vs, hv, hrq, h1q⟩ := rel_a hx
        cases hb2 : Nat.beq q.length sz with
        | false => rw [hb2] at h; exact h.elim
        | true => rw [hb2] at h; exact step q vs (by rw [hv]; rfl) hrq (Nat.eq_of_beq_eq_true hb2) h1q h
      · cases hb2 : (Nat.beq sz 1 && (ev s x).one) with
        | false => rw [hb2] at h; exact h.elim
        | true =>
          rw [hb2] at h
          simp only [Bool.and_eq_true] at hb2
          have h1x := hx.one hb2.2
          refine step [ev s x] [a.eval x] ?_ ?_ (by have := Nat.eq_of_beq_eq_true hb2.1; simp [this]) ?_ h
          · cases hxx : a.eval x <;> first | rfl | (rw [hxx] at h1x; cases h1x)
          · simp only [RelL]; exact ⟨_, _, rfl, hx, rfl⟩
          · intro z hz; simp at hz; subst hz; exact h1x

theorem nthL_eq : ∀ (l : List (List SV)) (n : Nat), nthL l n = l.getD n []
  | [], n => by simp [nthL]
  | x :: r, 0 => by simp [nthL]
  | x :: r, n + 1 => by simp [nthL, nthL_eq r n]
theorem flatten_part {ρ : List Loc} {sz : Nat} : ∀ (l : List (List SV)) (vs : List Value), RelL ρ l.flatten vs → (∀ q ∈ l, q.length = sz) → ∀ i, i < l.length → RelL ρ (l.getD i []) ((vs.drop (i * sz)).take sz)
  | [], vs, _, _, i, hi => by simp at hi
  | q :: r, vs, h, hq, i, hi => by
    have hql := hq q (by simp)
    simp only [List.flatten_cons] at h
    have h1 := h.take sz
    have h2 := h.drop sz
    rw [List.take_append_of_le_length (by omega), List.take_of_length_le (by omega)] at h1
    rw [List.drop_append_of_le_length (by omega), List.drop_of_length_le (by omega), List.nil_append] at h2
    cases i with
    | zero => simpa using h1
    | succ i =>
      have := flatten_part r _ h2 (fun q hq' => hq q (by simp [hq'])) i (by simpa using hi)
      simp only [List.getD_cons_succ]
      rw [List.drop_drop] at this
      rw [show (i + 1) * sz = sz + i * sz by rw [Nat.add_mul]; omega]
      exact this

theorem e_buildSlice (ht : Tab.ok Γ.P Γ.tab) (H : Holds Γ.B Γ.N ρ s a w) {T n : Nat} {parts : Array (Nat × Operand)} (h : vcOp Γ s ⟨dst, .buildSlice T n parts, ty, pos, after, guard⟩ K) : Oper.wp Γ.P ⟨dst, .buildSlice T n parts, ty, pos, after, guard⟩ a w (After Γ K) Q := by
  simp only [vcOp] at h
  split at h
  · rename_i ti hT
    obtain ⟨desc, hu, hd⟩ := tab_und ht hT
    split at h
    · rename_i e hde
      rw [hde] at hd
      simp only [TD.ok] at hd
      subst hd
      split at h
      · rename_i te he
        cases hb : (Nat.beq parts.toList.length n && Nat.ble (n * te.size) 65536 && Nat.blt 0 te.size) with
        | false => rw [hb] at h; exact h.elim
        | true =>
          rw [hb] at h
          simp only [Bool.and_eq_true] at hb
          have hn := Nat.eq_of_beq_eq_true hb.1.1
          have hle := Nat.le_of_ble_eq_true hb.1.2
          have hpos : 0 < te.size := blt_lt hb.2
          obtain ⟨l', vs, k1, k2, k3, k4, k5, k6⟩ := litS_sound H parts.toList 0 [] _ [] h (by simp [RelL]) (by simp) (by simp) rfl
          have hsz := tab_size ht he w
          obtain ⟨z, hz, hzl⟩ := tab_zero ht he w
          have hzs : z.cells.size = te.size := by rw [← Array.length_toList, hzl, (ht e te he).len]
          have hfill := k6 ((Array.range (n * te.size)).map (z.cells[· % z.cells.size]!)).toList (by simp) (by simp [hn])
          have hvl : vs.length = n * te.size := by
            rw [k2.length, List.length_flatten]
            have : l'.map List.length = List.replicate l'.length te.size := List.eq_replicate_iff.2 ⟨by simp, by simpa using k4⟩
            rw [this, List.sum_replicate_nat, k3]
            simp at hn ⊢
            rw [hn]
          refine wp_value (v := .slice (some ⟨w.heap.size, 0, none⟩) n n) (w' := w.alloc (.cells vs.toArray e)) ?_ ?_
          · have hn16 : ¬ (n * te.size > 2 ^ 24) := by omega
            have hp' : Instr.fill (fun i => some (i * te.size, te.size)) ((Array.range (n * te.size)).map (z.cells[· % z.cells.size]!)) (parts.map fun (i, x) => (i, a.eval x)).toList = some vs.toArray := by
              rw [Array.toArray_toList] at hfill
              rw [Array.toList_map]
              exact hfill
            by_cases h0 : n * te.size = 0
            · have hn0 : n = 0 := by
                rcases Nat.mul_eq_zero.1 h0 with h | h
                · exact h
                · omega
              subst hn0
              have hpe : parts = #[] := by cases parts; simpa using hn
              subst hpe
              have : vs = [] := List.eq_nil_of_length_eq_zero (by simpa using hvl)
              subst this
              simp only [execOp, Instr.buildSlice, Sem.run_bind, run_underlying hu, Result.andThen_ok, hsz]
              simp only [if_neg hn16, if_pos h0, Sem.run_pure]
              have hz0 : Array.range (0 * te.size) = #[] := by rw [Nat.zero_mul]; rfl
              rw [hz0]
              simp [Instr.fill, newRow]
            · simp only [execOp, Instr.buildSlice, Sem.run_bind, run_underlying hu, Result.andThen_ok, hsz]
              simp only [if_neg hn16, if_neg h0, Sem.run_bind, hz, Result.andThen_ok, Sem.run_pure]
              rw [hp']
              simp [newRow]
          · refine new_sound H k1 ((Below.refl _ _).alloc (Nat.le_refl _) _) ⟨w.heap.size, 0, te.size, .slice (some ⟨w.heap.size, 0, none⟩) n n⟩ ?_ ?_ ?_
            · have hml : n ≤ maxLen := by
                have : n * 1 ≤ n * te.size := Nat.mul_le_mul_left _ hpos
                simp only [maxLen]; omega
              refine ⟨_, vs, last_get _ _, rfl, rfl, ?_, fun b hb => (by have hb' : w.heap.size = b := (by simpa [Value.ownBlock] using hb); exact ⟨hb', .inl (by have := H.mem.frm.size; omega)⟩), k5, fun i hi => ?_⟩
              · have := World.ownsRow_lit (base := 0) (e := e) (size := te.size) w vs.toArray n (Nat.zero_le _) hml (by simpa using hvl)
                simpa using this
              · rw [nthL_eq]
                exact flatten_part l' vs (RelL.mono (Ext.app _ _) _ _ k2) k4 i (by rw [k3]; simp at hn ⊢; omega)
            · rintro b ⟨L, hL, hb⟩
              rw [last_get] at hL; cases hL
              simp [Value.ownBlock] at hb; omega
            · simp only [Rel]; exact ⟨_, last_get _ _, rfl, rfl⟩
      · exact h.elim
    · exact h.elim
  · exact h.elim
end
end Go.Proofs.YtiihmggoebohkaaDoor.Vc
