/- Verification conditions by symbolic execution: small helps. -/
import Derived.Test.YtiihmggoebohkaaDoorVc19
import Derived.Laws.StructEq
namespace Go.Proofs.YtiihmggoebohkaaDoor.Vc
open Go Go.RowKit

theorem drop_get {α : Type} (d : α) (s : List α) (k : Nat) (h : k < s.length) : s.drop k = s.getD k d :: s.drop (k + 1) := by
  rw [List.drop_eq_getElem_cons h]; simp [h]

/-- A function of plain values that makes memory at the most. -/
theorem con_plain {P : Program} {G : List (Nat × Value)} {g : Nat} (hf : Fun P g) {args : List Value} {v : Value}
    (h : ∀ w : World, (∀ (k : Nat) (x : Value), (k, x) ∈ G → w.cell? ⟨k, 0, none⟩ = some x) → Calls P g args.toArray w fun e w' => e = .returned v ∧ Below w.heap.size w w') : Con P G g (args.map .v) [] 0 (retV 0 (.v v)) := by
  refine ⟨hf, fun B w vs hw hG hn hms hrel => ?_⟩
  rw [RelL.plain] at hrel
  subst hrel
  refine (h w fun k x hm => hms.frm.glb hms.glb (by rw [hG]; exact hm)).mono ?_
  rintro e w' ⟨rfl, hb⟩
  exact ⟨v, .v v, [], 0, B.r0, rfl, ⟨rfl, rfl, rfl⟩, hn, by simp only [Rel], hms.below hb⟩

/-- '==' and '!=' of two structs or arrays, once it is known how the model finds them. -/
theorem ext_agg {P : Program} {s : St} {T T2 : Nat} {x y : Operand} {l r : List SV} {vl vr : List Value} {b : Bool} {dst : Option Nat} {ty : TypeId} {pos : String} {after : Array Edge} {guard : Option (Nat × Bool)} {K : SV → Prop}
    (hg : P.eqGuardType P.depth T = false) (he : ∀ w, (Op.equalIn 10000 T (.agg vl.toArray) (.agg vr.toArray)).run P w = .ok b w) (hx : ev s x = .a l) (hy : ev s y = .a r) (hl : l = vl.map .v) (hr : r = vr.map .v) (hk : K (.v (.bool b))) :
    ExtV P s ⟨dst, .binOp .eql T x y T2, ty, pos, after, guard⟩ K := by
  intro B N ρ a w H
  have h1 := H.ev x
  have h2 := H.ev y
  rw [hx, hl] at h1
  rw [hy, hr] at h2
  obtain ⟨u1, e1, q1, _⟩ := rel_a h1
  obtain ⟨u2, e2, q2, _⟩ := rel_a h2
  rw [RelL.plain] at q1 q2
  subst q1 q2
  refine good_val (q := do eqGuard .eql T x y (a.eval x) (a.eval y); binOp .eql T (a.eval x) (a.eval y)) rfl (v := .bool b) ?_ (by simp only [Rel]) hk
  rw [e1, e2]
  simp only [Sem.run_bind, run_eqGuard_agg w .eql T x y _ _ hg, Result.andThen_ok, run_eql_struct, he]
theorem ext_aggN {P : Program} {s : St} {T T2 : Nat} {x y : Operand} {l r : List SV} {vl vr : List Value} {b : Bool} {dst : Option Nat} {ty : TypeId} {pos : String} {after : Array Edge} {guard : Option (Nat × Bool)} {K : SV → Prop}
    (hg : P.eqGuardType P.depth T = false) (he : ∀ w, (Op.equalIn 10000 T (.agg vl.toArray) (.agg vr.toArray)).run P w = .ok b w) (hx : ev s x = .a l) (hy : ev s y = .a r) (hl : l = vl.map .v) (hr : r = vr.map .v) (hk : K (.v (.bool (!b)))) :
    ExtV P s ⟨dst, .binOp .neq T x y T2, ty, pos, after, guard⟩ K := by
  intro B N ρ a w H
  have h1 := H.ev x
  have h2 := H.ev y
  rw [hx, hl] at h1
  rw [hy, hr] at h2
  obtain ⟨u1, e1, q1, _⟩ := rel_a h1
  obtain ⟨u2, e2, q2, _⟩ := rel_a h2
  rw [RelL.plain] at q1 q2
  subst q1 q2
  refine good_val (q := do eqGuard .neq T x y (a.eval x) (a.eval y); binOp .neq T (a.eval x) (a.eval y)) rfl (v := .bool (!b)) ?_ (by simp only [Rel]) hk
  rw [e1, e2]
  simp only [Sem.run_bind, run_eqGuard_agg w .neq T x y _ _ hg, Result.andThen_ok, run_neq_struct, he]

theorem veq_refl (x : Value) : veq x x := by cases x <;> simp [veq, kB]; cases ‹IntKind› <;> rfl
theorem veq_of_eq {x y : Value} (h : x = y) : veq x y := h ▸ veq_refl x

theorem getD_app1 {α : Type} {d : α} {l r : List α} {j : Nat} (h : j < l.length) : (l ++ r).getD j d = l.getD j d := by
  simp [List.getElem?_append_left h]
theorem getD_app2 {α : Type} {d : α} {l r : List α} {j : Nat} : (l ++ r).getD (l.length + j) d = r.getD j d := by
  rw [List.getD_eq_getElem?_getD, List.getElem?_append_right (by omega), Nat.add_sub_cancel_left, List.getD_eq_getElem?_getD]
theorem getD_set1 {α : Type} {d : α} {l : List α} {i : Nat} {x : α} (h : i < l.length) : (l.set i x).getD i d = x := by
  simp [h]
theorem getD_set2 {α : Type} {d : α} {l : List α} {i j : Nat} {x : α} (h : j ≠ i) : (l.set i x).getD j d = l.getD j d := by
  simp [List.getElem?_set_ne (Ne.symm h)]
theorem lt0 {P : Nat → Prop} : ∀ i, i < 0 → P i := fun i h => absurd h (by omega)
theorem lt1 {P : Nat → Prop} (h0 : P 0) : ∀ i, i < 1 → P i
  | 0, _ => h0
  | i + 1, h => absurd h (by omega)
theorem lt2 {P : Nat → Prop} (h0 : P 0) (h1 : P 1) : ∀ i, i < 2 → P i
  | 0, _ => h0
  | 1, _ => h1
  | i + 2, h => absurd h (by omega)
theorem lt3 {P : Nat → Prop} (h0 : P 0) (h1 : P 1) (h2 : P 2) : ∀ i, i < 3 → P i
  | 0, _ => h0
  | 1, _ => h1
  | 2, _ => h2
  | i + 3, h => absurd h (by omega)
theorem lt4 {P : Nat → Prop} (h0 : P 0) (h1 : P 1) (h2 : P 2) (h3 : P 3) : ∀ i, i < 4 → P i
  | 0, _ => h0
  | 1, _ => h1
  | 2, _ => h2
  | 3, _ => h3
  | i + 4, h => absurd h (by omega)
theorem take_next {α : Type} (d : α) {a b : List α} {k : Nat} (h : a.take k = b.take k) (e : a.getD k d = b.getD k d) (ha : k < a.length) (hb : k < b.length) : a.take (k + 1) = b.take (k + 1) := by
  rw [List.take_succ_eq_append_getElem ha, List.take_succ_eq_append_getElem hb, h]
  simp [ha, hb] at e
  rw [e]
theorem take_all {α : Type} {a b : List α} {k : Nat} (h : a.take k = b.take k) (ha : a.length ≤ k) (hb : b.length ≤ k) : a = b := by
  rwa [List.take_of_length_le ha, List.take_of_length_le hb] at h
/-- An append of one element, and of many, to a list that is known. -/
theorem app1 {α : Type} (enc : α → List SV) (d : α) (l : List α) (c : α) {n i : Nat} {g : Nat → List SV} {K : (Nat → List SV) → Prop} (hn : n = l.length) (hg : g i = enc c) (hk : K fun j => enc ((l ++ [c]).getD j d)) :
    ∃ f' : Nat → List SV, (∀ j, j < n → f' j = enc (l.getD j d)) ∧ (∀ j, j < 1 → f' (n + j) = g (i + j)) ∧ K f' := by
  subst hn
  refine ⟨_, fun j hj => by rw [getD_app1 hj], fun j hj => ?_, hk⟩
  obtain rfl : j = 0 := by omega
  rw [getD_app2]; exact hg.symm
theorem appN {α : Type} (enc : α → List SV) (d : α) (l r : List α) {n m i : Nat} {g : Nat → List SV} {K : (Nat → List SV) → Prop} (hn : n = l.length) (hm : m = r.length) (hg : ∀ j, j < r.length → g (i + j) = enc (r.getD j d)) (hk : K fun j => enc ((l ++ r).getD j d)) :
    ∃ f' : Nat → List SV, (∀ j, j < n → f' j = enc (l.getD j d)) ∧ (∀ j, j < m → f' (n + j) = g (i + j)) ∧ K f' := by
  subst hn hm
  exact ⟨_, fun j hj => by rw [getD_app1 hj], fun j hj => by rw [getD_app2]; exact (hg j hj).symm, hk⟩
/-- The first append of all, to a nil slice. -/
theorem app0 {α : Type} (enc : α → List SV) (d : α) (r : List α) {m i : Nat} {g f : Nat → List SV} {K : (Nat → List SV) → Prop} (hm : m = r.length) (hg : ∀ j, j < r.length → g (i + j) = enc (r.getD j d)) (hk : K fun j => enc (r.getD j d)) :
    ∃ f' : Nat → List SV, (∀ j, j < 0 → f' j = f j) ∧ (∀ j, j < m → f' (0 + j) = g (i + j)) ∧ K f' := by
  subst hm
  exact ⟨_, fun j hj => absurd hj (by omega), fun j hj => by rw [Nat.zero_add]; exact (hg j hj).symm, hk⟩
theorem getD_seg {α : Type} {d : α} {l : List α} {i m j : Nat} (h : j < m) : ((l.drop i).take m).getD j d = l.getD (i + j) d := by
  rw [List.getD_eq_getElem?_getD, List.getElem?_take_of_lt h, List.getElem?_drop, List.getD_eq_getElem?_getD]
theorem seg_len {α : Type} {l : List α} {i m : Nat} (h : i + m ≤ l.length) : ((l.drop i).take m).length = m := by
  simp; omega
/-- The append of a piece of a list that is known. -/
theorem appS {α : Type} (enc : α → List SV) (d : α) (out l : List α) {n m i : Nat} {K : (Nat → List SV) → Prop} (hn : n = out.length) (him : i + m ≤ l.length) (hk : K fun j => enc ((out ++ (l.drop i).take m).getD j d)) :
    ∃ f' : Nat → List SV, (∀ j, j < n → f' j = enc (out.getD j d)) ∧ (∀ j, j < m → f' (n + j) = enc (l.getD (i + j) d)) ∧ K f' := by
  subst hn
  exact ⟨_, fun j hj => by rw [getD_app1 hj], fun j hj => by rw [getD_app2, getD_seg hj], hk⟩
/-- A store into a list that is known. -/
theorem sto1 {α : Type} (enc : α → List SV) (d : α) (l : List α) (x : α) {n i : Nat} {q : List SV} {K : (Nat → List SV) → Prop} (hn : n = l.length) (hi : i < l.length) (hq : enc x = q) (hk : K fun j => enc ((l.set i x).getD j d)) :
    ∃ f' : Nat → List SV, f' i = q ∧ (∀ j, j < n → j ≠ i → f' j = enc (l.getD j d)) ∧ K f' := by
  subst hn
  exact ⟨_, by rw [getD_set1 hi]; exact hq, fun j _ hne => by rw [getD_set2 hne], hk⟩
end Go.Proofs.YtiihmggoebohkaaDoor.Vc
