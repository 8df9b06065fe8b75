/- Chapter 15: a marked text holds both texts: the plain law. -/
import Derived.Test.YtjlobgcmhnkgnaaDoorK1
import Derived.Test.YtjlobgcmhnkgnaaDoorJ1
namespace Go.Proofs.YtjlobgcmhnkgnaaDoor
open Go Go.RowKit Vc

abbrev wA : Byt → Bool → Byt := woF [123, 43] [43, 125] [91, 45] [45, 93]
abbrev wB : Byt → Bool → Byt := woF [91, 45] [45, 93] [123, 43] [43, 125]
theorem wo_text {f1 f2 t1 t2 o1 o2 u1 u2 : UInt8} (hf : isM f1 = true) (ht : isM t1 = true) (ho : isM o1 = true) (hu : isM u1 = true) (Y : Byt) (b : Bool) :
    ∀ X : Byt, marksF X = false → woF [f1, f2] [t1, t2] [o1, o2] [u1, u2] (X ++ Y) b = (if b then [] else X) ++ woF [f1, f2] [t1, t2] [o1, o2] [u1, u2] Y b
  | [], _ => by cases b <;> rfl
  | c :: r, h => by
    rw [marks_cons, Bool.or_eq_false_iff] at h
    have ih := wo_text (f2 := f2) (t2 := t2) (o2 := o2) (u2 := u2) hf ht ho hu Y b r h.2
    have n : ∀ {m k d : UInt8}, isM m = true → ¬ ([c, d] = [m, k]) := fun hm e => by
      simp only [List.cons.injEq] at e
      rw [e.1, hm] at h; cases h.1
    rw [List.cons_append]
    cases hq : r ++ Y with
    | nil =>
      obtain ⟨rfl, rfl⟩ := List.append_eq_nil_iff.1 hq
      cases b <;> rfl
    | cons d q =>
      rw [hq] at ih
      show (if [c, d] = [f1, f2] then _ else if [c, d] = [t1, t2] then _ else if [c, d] = [o1, o2] ∨ [c, d] = [u1, u2] then _ else (if b then [] else [c]) ++ woF [f1, f2] [t1, t2] [o1, o2] [u1, u2] (d :: q) b) = _
      rw [if_neg (n hf), if_neg (n ht), if_neg (fun k => k.elim (n ho) (n hu)), ih]
      cases b <;> rfl
theorem wA_text (X Y : Byt) (b : Bool) (h : marksF X = false) : wA (X ++ Y) b = (if b then [] else X) ++ wA Y b := wo_text (by decide) (by decide) (by decide) (by decide) Y b X h
theorem wB_text (X Y : Byt) (b : Bool) (h : marksF X = false) : wB (X ++ Y) b = (if b then [] else X) ++ wB Y b := wo_text (by decide) (by decide) (by decide) (by decide) Y b X h
theorem marks_app (x y : Byt) : marksF (x ++ y) = (marksF x || marksF y) := by simp [marksF]
theorem marks_flat : ∀ {L : List Byt}, (∀ l ∈ L, marksF l = false) → marksF L.flatten = false
  | [], _ => rfl
  | l :: r, h => by
    rw [List.flatten_cons, marks_app, h l (List.mem_cons_self ..), marks_flat fun x hx => h x (List.mem_cons_of_mem _ hx)]
    rfl
theorem marks_seg {L : List Byt} (h : ∀ l ∈ L, marksF l = false) (i j : Int) : marksF (segF L i j) = false :=
  marks_flat fun l hl => h l (List.mem_of_mem_drop (List.mem_of_mem_take hl))
theorem seg_rest (b : List Byt) {i j : Int} (h : i ≤ j) : segF b i j ++ (b.drop j.toNat).flatten = (b.drop i.toNat).flatten := by
  unfold segF
  have e : b.drop j.toNat = (b.drop i.toNat).drop (j.toNat - i.toNat) := by rw [List.drop_drop, show i.toNat + (j.toNat - i.toNat) = j.toNat by omega]
  rw [e, ← List.flatten_append, List.take_append_drop]
theorem seg_all (b : List Byt) (i : Int) : segF b i b.length = (b.drop i.toNat).flatten := by
  unfold segF
  rw [List.take_of_length_le (by simp)]
theorem seg_none (b : List Byt) (i : Int) : segF b i i = [] := by
  unfold segF
  rw [Nat.sub_self]; rfl
/-- What stays is the same in both. -/
def gapsF (a b : List Byt) : List Chg → Int → Int → Prop
  | [], x, p => segF a x a.length = segF b p b.length
  | c :: r, x, p => segF a x c.A = segF b p c.B ∧ gapsF a b r (c.A + c.N) (c.B + c.M)
theorem back_a {a b : List Byt} (ha : ∀ l ∈ a, marksF l = false) (hb : ∀ l ∈ b, marksF l = false) : ∀ (L : List Chg) (x p : Int), validF L x p a.length b.length = 0 → gapsF a b L x p →
    wA (inlF a b L p) false = (a.drop x.toNat).flatten
  | [], x, p, _, hg => by
    have hg : segF a x a.length = segF b p b.length := hg
    have := wA_text (segF b p b.length) [] false (marks_seg hb _ _)
    rw [List.append_nil] at this
    simp only [inlF]
    rw [this, ← hg, seg_all]
    simp [woF]
  | c :: r, x, p, hv, hg => by
    obtain ⟨hbad, hr⟩ := valid_cons hv
    unfold bad at hbad
    obtain ⟨g1, g2⟩ := hg
    have ih := back_a ha hb r (c.A + c.N) (c.B + c.M) hr g2
    simp only [inlF]
    rw [wA_text _ _ _ (marks_seg hb _ _), ← g1, ← seg_rest a (i := x) (j := c.A) (by omega), ← seg_rest a (i := c.A) (j := c.A + c.N) (by omega), ← ih]
    have d1 : ∀ Y, wA ((if c.N > 0 then [91, 45] ++ segF a c.A (c.A + c.N) ++ [45, 93] else []) ++ Y) false = segF a c.A (c.A + c.N) ++ wA Y false := fun Y => by
      split
      · rw [List.append_assoc, List.append_assoc]
        show wA (segF a c.A (c.A + c.N) ++ ([45, 93] ++ Y)) false = _
        rw [wA_text _ _ _ (marks_seg ha _ _)]
        rfl
      · rw [show c.A + c.N = c.A by omega, seg_none]; rfl
    have d2 : ∀ Y, wA ((if c.M > 0 then [123, 43] ++ segF b c.B (c.B + c.M) ++ [43, 125] else []) ++ Y) false = wA Y false := fun Y => by
      split
      · rw [List.append_assoc, List.append_assoc]
        show wA (segF b c.B (c.B + c.M) ++ ([43, 125] ++ Y)) true = _
        rw [wA_text _ _ _ (marks_seg hb _ _)]
        rfl
      · rfl
    rw [d1, d2]
    rfl
theorem back_b {a b : List Byt} (ha : ∀ l ∈ a, marksF l = false) (hb : ∀ l ∈ b, marksF l = false) : ∀ (L : List Chg) (x p : Int), validF L x p a.length b.length = 0 →
    wB (inlF a b L p) false = (b.drop p.toNat).flatten
  | [], x, p, _ => by
    have := wB_text (segF b p b.length) [] false (marks_seg hb _ _)
    rw [List.append_nil] at this
    simp only [inlF]
    rw [this, seg_all]
    simp [woF]
  | c :: r, x, p, hv => by
    obtain ⟨hbad, hr⟩ := valid_cons hv
    unfold bad at hbad
    have ih := back_b ha hb r (c.A + c.N) (c.B + c.M) hr
    simp only [inlF]
    rw [wB_text _ _ _ (marks_seg hb _ _), ← seg_rest b (i := p) (j := c.B) (by omega), ← seg_rest b (i := c.B) (j := c.B + c.M) (by omega), ← ih]
    have d1 : ∀ Y, wB ((if c.N > 0 then [91, 45] ++ segF a c.A (c.A + c.N) ++ [45, 93] else []) ++ Y) false = wB Y false := fun Y => by
      split
      · rw [List.append_assoc, List.append_assoc]
        show wB (segF a c.A (c.A + c.N) ++ ([45, 93] ++ Y)) true = _
        rw [wB_text _ _ _ (marks_seg ha _ _)]
        rfl
      · rfl
    have d2 : ∀ Y, wB ((if c.M > 0 then [123, 43] ++ segF b c.B (c.B + c.M) ++ [43, 125] else []) ++ Y) false = segF b c.B (c.B + c.M) ++ wB Y false := fun Y => by
      split
      · rw [List.append_assoc, List.append_assoc]
        show wB (segF b c.B (c.B + c.M) ++ ([43, 125] ++ Y)) false = _
        rw [wB_text _ _ _ (marks_seg hb _ _)]
        rfl
      · rw [show c.B + c.M = c.B by omega, seg_none]; rfl
    rw [d1, d2]
    rfl
end Go.Proofs.YtjlobgcmhnkgnaaDoor
