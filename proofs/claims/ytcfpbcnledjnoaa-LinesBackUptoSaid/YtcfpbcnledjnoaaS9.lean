/- Chapter 1: the law of lines there and back, walked. -/
import Derived.Test.YtcfpbcnledjnoaaS8
namespace Go.Proofs.Ytcfpbcnledjnoaa
open Go Go.RowKit Vc

/-- The lines of a text are lines. -/
theorem okI_line {x : Byt} (h : (10 : UInt8) ∉ x) : okI (x ++ [10]) False := by
  rw [ok_iff]
  refine ⟨by simp, fun j hj e => ?_, .inr (by simp)⟩
  simp at hj
  rw [getD_app1 (by omega)] at e
  refine h ?_
  rw [← e, List.getD_eq_getElem?_getD, List.getElem?_eq_getElem (by omega)]
  exact List.getElem_mem _
theorem okI_weak {x : Byt} {p : Prop} (h : okI x False) : okI x p := ⟨h.1, h.2.elim .inl fun k => k.2.elim⟩
theorem okI_last {x : Byt} {p : Prop} (h : (10 : UInt8) ∉ x) (hx : x ≠ []) (hp : p) : okI x p := by
  refine ⟨hx, .inr ⟨?_, hp⟩⟩
  rcases idx_cases x with ⟨k, _⟩ | ⟨q, _, k2, k3, _⟩
  · exact k
  · exact absurd (by rw [← k3, List.getD_eq_getElem?_getD, List.getElem?_eq_getElem k2]; exact List.getElem_mem k2) h
/-- Every piece is a line; all but the last one have their end. -/
theorem splitG_ok : ∀ (r cur : Byt), (10 : UInt8) ∉ cur → ∀ i, i < (splitG r cur).length → okI ((splitG r cur).getD i []) (i + 1 = (splitG r cur).length)
  | [], [], _, i, h => by simp [splitG] at h
  | [], c :: cur, hc, i, h => by
    simp [splitG] at h
    subst h
    show okI (c :: cur) _
    exact okI_last hc (by simp) rfl
  | c :: r, cur, hc, i, h => by
    simp only [splitG] at h ⊢
    by_cases e : c = 10
    · rw [if_pos e] at h ⊢
      subst e
      cases i with
      | zero => exact okI_weak (okI_line hc)
      | succ i =>
        have := splitG_ok r [] (by simp) i (by simpa using h)
        simpa using this
    · rw [if_neg e] at h ⊢
      exact splitG_ok r (cur ++ [c]) (by simp [hc, Ne.symm e]) i h
theorem splitF_valid (l : Byt) : validB (splitF l) = true := valid_yes (splitG_ok l [] (by simp))
/-- Lines that are valid are the lines of their text. -/
theorem split_join : ∀ (L : List Byt), validB L = true → splitF L.flatten = L
  | [], _ => rfl
  | x :: r, h => by
    have hv := of_decide_eq_true h
    have h0 := hv 0 (by simp)
    have hr : validB r = true := valid_yes fun i hi => by
      have := hv (i + 1) (by simpa using hi)
      simpa using this
    have ih := split_join r hr
    simp only [List.getD_cons_zero, List.length_cons] at h0
    rcases h0 with ⟨h1, h2 | ⟨h2, h3⟩⟩
    · have hp := List.length_pos_iff.2 h1
      obtain ⟨k1, k2, k3⟩ := idx_at (q := x.length - 1) (show Lib.indexByte x 10 = _ by omega)
      rw [splitF, splitG_some (k := x.length - 1) [] (by simp; omega) (by rw [List.flatten_cons, getD_app1 k1]; exact k2) ?_]
      · rw [List.flatten_cons, show x.length - 1 + 1 = x.length by omega]
        simp only [List.nil_append, List.take_left, List.drop_left]
        rw [← splitF, ih]
      · rw [List.flatten_cons, List.take_append_of_le_length (by omega)]
        intro hm
        obtain ⟨j, hj, e⟩ := List.mem_iff_getElem.1 hm
        simp at hj
        refine k3 j (by omega) ?_
        rw [← e]; simp; rw [List.getElem?_eq_getElem (by omega)]; rfl
    · have hr0 : r = [] := List.eq_nil_of_length_eq_zero (by omega)
      subst hr0
      simp only [List.flatten_cons, List.flatten_nil, List.append_nil]
      rcases idx_cases x with ⟨_, k2⟩ | ⟨q, k1, _⟩
      · rw [splitF, splitG_none [] k2, List.nil_append, splitG_end h1]
      · omega

theorem cnt_line {x : Byt} (h : okI x False) : x.count 10 = 1 := by
  rcases h with ⟨h1, h2 | ⟨_, h2⟩⟩
  · have hp := List.length_pos_iff.2 h1
    obtain ⟨k1, k2, k3⟩ := idx_at (q := x.length - 1) (show Lib.indexByte x 10 = _ by omega)
    rw [← List.take_append_drop (x.length - 1) x, List.count_append]
    have e1 : (x.take (x.length - 1)).count 10 = 0 := by
      refine List.count_eq_zero.2 fun hm => ?_
      obtain ⟨j, hj, e⟩ := List.mem_iff_getElem.1 hm
      simp at hj
      refine k3 j (by omega) ?_
      rw [← e]; simp; rw [List.getElem?_eq_getElem (by omega)]; rfl
    have e2 : x.drop (x.length - 1) = [10] := by
      rw [drop_get 0 x (x.length - 1) k1, k2, List.drop_of_length_le (by omega)]
    rw [e1, e2]; rfl
  · exact h2.elim
theorem cnt_pre {L : List Byt} (h : validB L = true) : ∀ i, i < L.length → (L.take i).flatten.count 10 = i
  | 0, _ => by simp
  | i + 1, hi => by
    have hv := of_decide_eq_true h i (by omega)
    rw [List.take_succ_eq_append_getElem (by omega), List.flatten_append, List.count_append, cnt_pre h i (by omega)]
    have e : L[i] = L.getD i [] := (strs_out L i (by omega)).symm
    simp only [List.flatten_cons, List.flatten_nil, List.append_nil]
    rw [e, cnt_line ⟨hv.1, hv.2.elim .inl fun k => absurd k.2 (by omega)⟩]
/-- Cut at a line: what is ahead, the line, what is behind. -/
theorem cut_at {L : List Byt} {i : Nat} (hi : i < L.length) : L.flatten = (L.take i).flatten ++ (L.getD i [] ++ (L.drop (i + 1)).flatten) := by
  have e : L = L.take i ++ (L.getD i [] :: L.drop (i + 1)) := by
    rw [← drop_get [] L i hi, List.take_append_drop]
  conv => lhs; rw [e]
  simp
theorem last_nl {L : List Byt} (h : validB L = true) {i : Nat} (hi : i < L.length) (h0 : 0 < (L.take i).flatten.length) : (L.take i).flatten.getD ((L.take i).flatten.length - 1) 0 = 10 := by
  cases i with
  | zero => simp at h0
  | succ i =>
    have hv := of_decide_eq_true h i (by omega)
    have hb := (ok_iff _ _).1 hv
    rw [List.take_succ_eq_append_getElem (by omega), List.flatten_append]
    have e : L[i] = L.getD i [] := (strs_out L i (by omega)).symm
    simp only [List.flatten_cons, List.flatten_nil, List.append_nil]
    rw [e, List.length_append, show (L.take i).flatten.length + (L.getD i []).length - 1 = (L.take i).flatten.length + ((L.getD i []).length - 1) by omega, getD_app2]
    exact hb.2.2.resolve_left (by omega)
theorem place_line {L : List Byt} (h : validB L = true) {i : Nat} (hi : i < L.length) {s : Byt} (hs : L.flatten = s) :
    placeF s (((L.take i).flatten.length : Int) + (L.getD i []).length - 1) = ((i : Int) + 1, ((L.getD i []).length : Int), true) := by
  have hv := of_decide_eq_true h i hi
  have hb := (ok_iff _ _).1 hv
  have hc := cut_at hi
  have hcp := cnt_pre h i hi
  have hln := last_nl h hi
  rw [hs] at hc
  have hl := congrArg List.length hc
  simp only [List.length_append] at hl
  obtain ⟨P, hP⟩ : ∃ P, P = (L.take i).flatten := ⟨_, rfl⟩
  obtain ⟨x, hx⟩ : ∃ x, x = L.getD i [] := ⟨_, rfl⟩
  obtain ⟨R, hR⟩ : ∃ R, R = (L.drop (i + 1)).flatten := ⟨_, rfl⟩
  rw [← hP, ← hx, ← hR] at hc hl
  rw [← hP] at hcp hln ⊢
  rw [← hx] at hb ⊢
  obtain ⟨b1, b2, _⟩ := hb
  have hin : ∀ j, j < x.length → s.getD (P.length + j) 0 = x.getD j 0 := fun j hj => by
    rw [hc, getD_app2, getD_app1 hj]
  have hpre : ∀ j, j < P.length → s.getD j 0 = P.getD j 0 := fun j hj => by
    rw [hc, getD_app1 hj]
  unfold placeF
  rw [if_neg (by omega)]
  have ho : ((P.length : Int) + x.length - 1).toNat = P.length + (x.length - 1) := by omega
  rw [ho]
  have e1 : (s.take (P.length + (x.length - 1))).count 10 = i := by
    rw [hc, List.take_append, List.take_of_length_le (by omega), show P.length + (x.length - 1) - P.length = x.length - 1 by omega, List.take_append_of_le_length (by omega), List.count_append, hcp]
    have : (x.take (x.length - 1)).count 10 = 0 := by
      refine List.count_eq_zero.2 fun hm => ?_
      obtain ⟨j, hj, e⟩ := List.mem_iff_getElem.1 hm
      simp at hj
      refine b2 j (by omega) ?_
      rw [← e]; simp; rw [List.getElem?_eq_getElem (by omega)]; rfl
    omega
  have e2 : Lib.lastIdx (bs s) 10 (P.length + (x.length - 1)) = (P.length : Int) - 1 := by
    have hg : ∀ j, j < s.length → ((((bs s).data[j]!).toNat : Int) = 10 ↔ s.getD j 0 = 10) := fun j hj => by
      rw [← u8_iff (y := 10)]
      simp [bs, hj]
    have hno : ∀ j, P.length ≤ j → j < P.length + (x.length - 1) → s.getD j 0 ≠ 10 := fun j h1 h2 => by
      obtain ⟨q, rfl⟩ : ∃ q, j = P.length + q := ⟨j - P.length, by omega⟩
      rw [hin q (by omega)]
      exact b2 q (by omega)
    rcases Lib.lastIdx_spec (bs s) 10 (P.length + (x.length - 1)) with ⟨k1, k2⟩ | ⟨q, k1, k2, k3, k4⟩
    · rcases Nat.eq_zero_or_pos P.length with h0 | h0
      · omega
      · refine absurd ((hg (P.length - 1) (by omega)).2 ?_) (k2 (P.length - 1) (by omega))
        rw [hpre _ (by omega)]
        exact hln h0
    · have hq := (hg q (by omega)).1 k3
      have hlt : q < P.length := Nat.lt_of_not_le fun hge => hno q hge k1 hq
      rcases Nat.lt_or_ge q (P.length - 1) with hlt2 | hge
      · refine absurd ((hg (P.length - 1) (by omega)).2 ?_) (k4 (P.length - 1) hlt2 (by omega))
        rw [hpre _ (by omega)]
        exact hln (by omega)
      · omega
  rw [e1, e2]
  refine Prod.ext rfl (Prod.ext ?_ rfl)
  show (P.length : Int) + x.length - 1 - ((P.length : Int) - 1) = x.length
  omega
theorem whole_line {L : List Byt} (h : validB L = true) {i : Nat} (hi : i < L.length) {s : Byt} (hs : L.flatten = s) : wholeF (L.getD i []) = true ↔ (i + 1 < L.length ∨ s.getD (s.length - 1) 0 = 10) := by
  have hv := of_decide_eq_true h i hi
  have hb := (ok_iff _ _).1 hv
  rw [whole_eq, decide_eq_true_iff]
  by_cases hlast : i + 1 = L.length
  · have hc := cut_at hi
    rw [hs, List.drop_of_length_le (by omega), List.flatten_nil, List.append_nil] at hc
    have hl := congrArg List.length hc
    simp only [List.length_append] at hl
    have e : s.getD (s.length - 1) 0 = (L.getD i []).getD ((L.getD i []).length - 1) 0 := by
      rw [hl, hc, show ((L.take i).flatten.length + (L.getD i []).length - 1) = (L.take i).flatten.length + ((L.getD i []).length - 1) by omega, getD_app2]
    rw [e]
    exact ⟨fun k => .inr k.2, fun k => ⟨hb.1, k.resolve_left (by omega)⟩⟩
  · exact ⟨fun _ => .inl (by omega), fun _ => ⟨hb.1, hb.2.2.resolve_left hlast⟩⟩
end Go.Proofs.Ytcfpbcnledjnoaa
