/- Chapter 1: whether strings are a text's lines; the text of lines. -/
import Derived.Test.YtcfpbcnledjnoaaDoorS4
namespace Go.Proofs.YtcfpbcnledjnoaaDoor
open Go Go.RowKit Vc

abbrev okI (x : Byt) (last : Prop) : Prop := x ≠ [] ∧ (Lib.indexByte x 10 = (x.length : Int) - 1 ∨ (Lib.indexByte x 10 = -1 ∧ last))
def validB (L : List Byt) : Bool := decide (∀ i, i < L.length → okI (L.getD i []) (i + 1 = L.length))
theorem valid_yes {L : List Byt} (h : ∀ i, i < L.length → okI (L.getD i []) (i + 1 = L.length)) : validB L = true := decide_eq_true h
theorem valid_not {L : List Byt} {i : Nat} (hi : i < L.length) (h : ¬ okI (L.getD i []) (i + 1 = L.length)) : validB L = false := decide_eq_false fun k => h (k i hi)
theorem getD_le {L : List Byt} {m : Nat} (h : ∀ x ∈ L, x.length ≤ m) (i : Nat) : (L.getD i []).length ≤ m := by
  rcases Nat.lt_or_ge i L.length with hlt | hge
  · rw [List.getD_eq_getElem?_getD, List.getElem?_eq_getElem hlt]
    exact h _ (List.getElem_mem hlt)
  · rw [List.getD_eq_getElem?_getD, List.getElem?_eq_none hge]
    simp

set_option maxRecDepth 100000 in
set_option maxHeartbeats 4000000 in
theorem valid_con (L : List Byt) (hl : L.length ≤ 9223372036854775807) (hx : ∀ x ∈ L, x.length ≤ 140737488355328) : Con Tryd.prog glob 17 [.s 0 0 L.length] [(0, stRo L)] 1 (retV 1 (.v (.bool (validB L)))) := by
  refine spec_intro (tab := tab) (N := 40) Tryd.func17 rfl rfl tab_ok mix rfl rfl _ rfl ?_
  intro B hG
  repeat' (first | refine And.intro (by first | omega | (dsimp only; omega) | (show (_ : Bool) = true; kernel_rfl) | decide | (repeat' (first | refine And.intro ?_ ?_ | exact trivial | exact rfl))) ?_ | refine bcs_dec (fun h => ?_) (fun h => ?_) | refine bcs_ndec (fun h => ?_) (fun h => ?_) | refine bcs_not ?_ | refine bcs_intro (fun h => ?_) (fun h => ?_) | refine And.intro ?_ ?_ | refine reg_tail (by kernel_rfl) ?_)
  refine loop_rule (α := Nat) (fun k => ⟨[(0, .s 0 0 L.length), (6, .s 0 0 L.length), (7, .v (.int .i64 L.length)), (8, .v (.int .i64 k))], [(0, stRo L)], 1⟩)
    (fun k => k ≤ L.length ∧ ∀ i, i < k → okI (L.getD i []) (i + 1 = L.length)) (fun k => L.length - k) 0 [] ?_ ?_ ?_
  · exact ⟨by omega, fun i h => absurd h (by omega)⟩
  · (refine ⟨rfl, rfl, ?_, ?_⟩ <;> repeat' (first | refine And.intro ?_ ?_ | exact trivial | exact rfl | refine lt0 | refine lt1 ?_ | refine lt2 ?_ ?_ | refine lt3 ?_ ?_ ?_ | refine lt4 ?_ ?_ ?_ ?_ | exact veq_refl _ | decide | (intro i hi; repeat' (first | refine And.intro ?_ ?_ | exact trivial | exact rfl))))
    all_goals exact Nat.le_refl _
  rintro k ⟨h1, h2⟩
  have ek : (L.getD (0 + (k : Int).toNat) []) = L.getD k [] := by simp
  have hb : (bs (L.getD (0 + (k : Int).toNat) [])).size = (L.getD k []).length := by rw [ek, bs_size]
  have hm := getD_le hx k
  have hi := idx_con (L.getD (0 + (k : Int).toNat) [])
  have step : k < L.length → okI (L.getD k []) (k + 1 = L.length) → (k + 1 ≤ L.length ∧ ∀ i, i < k + 1 → okI (L.getD i []) (i + 1 = L.length)) := fun h h' => ⟨h, fun i hi => by
    rcases Nat.lt_succ_iff_lt_or_eq.1 hi with h3 | rfl
    · exact h2 i h3
    · exact h'⟩
  rcases idx_cases (L.getD (0 + (k : Int).toNat) []) with ⟨k1, _⟩ | ⟨q, k1, k2, _, _⟩
  all_goals
    rw [k1] at hi
    rw [ek] at k1
    try rw [ek] at k2
    repeat' (first | refine And.intro (by first | omega | (dsimp only; omega) | (show (_ : Bool) = true; kernel_rfl) | decide | (repeat' (first | refine And.intro ?_ ?_ | exact trivial | exact rfl))) ?_ | refine bcs_dec (fun h => ?_) (fun h => ?_) | refine bcs_ndec (fun h => ?_) (fun h => ?_) | refine bcs_not ?_ | refine bcs_intro (fun h => ?_) (fun h => ?_) | refine And.intro ?_ ?_ | refine reg_tail (by kernel_rfl) ?_)
    refine call_rule [] (hi) hG ?_ ?_
    · (refine ⟨?_, ?_, rfl, rfl, rfl⟩ <;> repeat' (first | refine And.intro ?_ ?_ | exact trivial | exact rfl | refine lt0 | refine lt1 ?_ | refine lt2 ?_ ?_ | refine lt3 ?_ ?_ ?_ | refine lt4 ?_ ?_ ?_ ?_ | exact veq_refl _ | decide | (intro i hi; repeat' (first | refine And.intro ?_ ?_ | exact trivial | exact rfl))))
      all_goals first | exact Nat.le_refl _ | omega
    rintro _ _ _ ⟨rfl, rfl, rfl⟩
    repeat' (first | refine And.intro (by first | omega | (dsimp only; omega) | (show (_ : Bool) = true; kernel_rfl) | decide | (repeat' (first | refine And.intro ?_ ?_ | exact trivial | exact rfl))) ?_ | refine bcs_dec (fun h => ?_) (fun h => ?_) | refine bcs_ndec (fun h => ?_) (fun h => ?_) | refine bcs_not ?_ | refine bcs_intro (fun h => ?_) (fun h => ?_) | refine And.intro ?_ ?_ | refine reg_tail (by kernel_rfl) ?_)
    all_goals first
      | (refine ret_plain ?_
         refine veq_of_eq (congrArg Value.bool ?_)
         refine (valid_not (i := k) (by omega) ?_)
         rintro ⟨g1, g2⟩
         have g0 := List.length_pos_iff.2 g1
         first
           | (rcases g2 with g2 | ⟨g2, g3⟩ <;> omega)
           | exact g1 (by rw [← ek]; exact nil_of (by assumption))
         done)
      | (refine ⟨k + 1, [], ?_, ?_, ?_⟩
         · exact step (by omega) ⟨by rw [← ek]; exact cons_of (by assumption), by first | exact .inl (by omega) | exact .inr ⟨k1, by omega⟩⟩
         · show L.length - (k + 1) < L.length - k
           omega
         · (refine ⟨rfl, rfl, ?_, ?_⟩ <;> repeat' (first | refine And.intro ?_ ?_ | exact trivial | exact rfl | refine lt0 | refine lt1 ?_ | refine lt2 ?_ ?_ | refine lt3 ?_ ?_ ?_ | refine lt4 ?_ ?_ ?_ ?_ | exact veq_refl _ | decide | (intro i hi; repeat' (first | refine And.intro ?_ ?_ | exact trivial | exact rfl))))
           all_goals exact Nat.le_refl _
         done)
      | (refine ret_plain ?_
         refine veq_of_eq (congrArg Value.bool ?_)
         exact valid_yes fun i hi => h2 i (by omega))

theorem idx_is {x : Byt} {q : Nat} (h1 : q < x.length) (h2 : x.getD q 0 = 10) (h3 : ∀ j, j < q → x.getD j 0 ≠ 10) : Lib.indexByte x 10 = q := by
  rcases idx_cases x with ⟨_, k2⟩ | ⟨r, k1, k2, k3, k4⟩
  · exact absurd (by rw [← h2, List.getD_eq_getElem?_getD, List.getElem?_eq_getElem h1]; exact List.getElem_mem h1) k2
  · rcases Nat.lt_trichotomy q r with hlt | rfl | hgt
    · refine absurd ?_ k4
      rw [← h2]
      refine List.mem_iff_getElem?.2 ⟨q, ?_⟩
      rw [List.getElem?_take_of_lt hlt, List.getD_eq_getElem?_getD, List.getElem?_eq_getElem h1]
      rfl
    · exact k1
    · exact absurd k3 (h3 r hgt)
theorem idx_no {x : Byt} (h : ∀ j, j < x.length → x.getD j 0 ≠ 10) : Lib.indexByte x 10 = -1 := by
  rcases idx_cases x with ⟨k1, _⟩ | ⟨r, _, k2, k3, _⟩
  · exact k1
  · exact absurd k3 (h r k2)
theorem idx_none {x : Byt} (h : Lib.indexByte x 10 = -1) {j : Nat} (hj : j < x.length) : x.getD j 0 ≠ 10 := by
  intro e
  rcases idx_cases x with ⟨_, k2⟩ | ⟨r, k1, _⟩
  · refine k2 ?_
    rw [← e, List.getD_eq_getElem?_getD, List.getElem?_eq_getElem hj]
    exact List.getElem_mem hj
  · omega
theorem idx_at {x : Byt} {q : Nat} (h : Lib.indexByte x 10 = q) : q < x.length ∧ x.getD q 0 = 10 ∧ ∀ j, j < q → x.getD j 0 ≠ 10 := by
  rcases idx_cases x with ⟨k1, _⟩ | ⟨r, k1, k2, k3, k4⟩
  · omega
  · obtain rfl : r = q := by omega
    refine ⟨k2, k3, fun j hj e => k4 ?_⟩
    rw [← e]
    refine List.mem_iff_getElem?.2 ⟨j, ?_⟩
    rw [List.getElem?_take_of_lt hj, List.getD_eq_getElem?_getD, List.getElem?_eq_getElem (by omega)]
    rfl
theorem ok_iff (x : Byt) (last : Prop) : okI x last ↔ 0 < x.length ∧ (∀ j, j + 1 < x.length → x.getD j 0 ≠ 10) ∧ (last ∨ x.getD (x.length - 1) 0 = 10) := by
  constructor
  · rintro ⟨g1, g2⟩
    have g0 := List.length_pos_iff.2 g1
    refine ⟨g0, fun j hj => ?_, ?_⟩
    · rcases g2 with g2 | ⟨g2, _⟩
      · exact (idx_at (q := x.length - 1) (by omega)).2.2 j (by omega)
      · exact idx_none g2 (by omega)
    · rcases g2 with g2 | ⟨_, g2⟩
      · exact .inr (idx_at (q := x.length - 1) (by omega)).2.1
      · exact .inl g2
  · rintro ⟨g0, g1, g2⟩
    refine ⟨List.length_pos_iff.1 g0, ?_⟩
    by_cases e : x.getD (x.length - 1) 0 = 10
    · left
      rw [idx_is (q := x.length - 1) (by omega) e fun j hj => g1 j (by omega)]
      omega
    · right
      refine ⟨idx_no fun j hj => ?_, g2.resolve_right e⟩
      rcases Nat.lt_or_ge (j + 1) x.length with h | h
      · exact g1 j h
      · rwa [show j = x.length - 1 by omega]

end Go.Proofs.YtcfpbcnledjnoaaDoor
