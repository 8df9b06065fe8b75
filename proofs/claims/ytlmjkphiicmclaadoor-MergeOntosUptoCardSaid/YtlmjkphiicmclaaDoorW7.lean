/- Chapter 18: the merged text, or the error: as functions; what is known of the pieces. -/
import Derived.Test.YtlmjkphiicmclaaDoorM11
import Derived.Test.YtlmjkphiicmclaaDoorW6
import Derived.Test.YtlmjkphiicmclaaDoorW4
import Derived.Test.YtlmjkphiicmclaaDoorGA
namespace Go.Proofs.YtlmjkphiicmclaaDoor
open Go Go.RowKit Vc

def clF (fmt : Int) : List Chk → Int
  | [] => 0
  | c :: r => (if c.k = 5 ∧ fmt < 3 then 1 else 0) + clF fmt r
def mgErr (s t : List Chg) (b m y lab : List Byt) (fmt : Int) : Int :=
  if fmt < 1 ∨ fmt > 5 then 1 else if labE lab ≠ 0 then labE lab else if chErr s t b m y ≠ 0 then chErr s t b m y
  else if (toldsF b m y lab fmt (chLst s t b m y)).length > 4194304 then 2 else 0
def mgTxt (s t : List Chg) (b m y lab : List Byt) (fmt : Int) : Byt := if mgErr s t b m y lab fmt = 0 then toldsF b m y lab fmt (chLst s t b m y) else []
def mgCl (s t : List Chg) (b m y lab : List Byt) (fmt : Int) : Int := if mgErr s t b m y lab fmt = 0 then clF fmt (chLst s t b m y) else 0
theorem mgErr_cases (s t : List Chg) (b m y lab : List Byt) (fmt : Int) :
    ((fmt < 1 ∨ fmt > 5) ∧ mgErr s t b m y lab fmt = 1) ∨ (1 ≤ fmt ∧ fmt ≤ 5 ∧ ((labE lab ≠ 0 ∧ mgErr s t b m y lab fmt = labE lab) ∨ (labE lab = 0 ∧ ((chErr s t b m y ≠ 0 ∧ mgErr s t b m y lab fmt = chErr s t b m y) ∨
      (chErr s t b m y = 0 ∧ (((toldsF b m y lab fmt (chLst s t b m y)).length > 4194304 ∧ mgErr s t b m y lab fmt = 2) ∨ ((toldsF b m y lab fmt (chLst s t b m y)).length ≤ 4194304 ∧ mgErr s t b m y lab fmt = 0))))))) := by
  unfold mgErr
  by_cases h1 : fmt < 1 ∨ fmt > 5
  · rw [if_pos h1]; exact Or.inl ⟨h1, rfl⟩
  · rw [if_neg h1]
    refine Or.inr ⟨by omega, by omega, ?_⟩
    by_cases h2 : labE lab = 0
    · rw [if_neg (fun k => k h2)]
      refine Or.inr ⟨h2, ?_⟩
      by_cases h3 : chErr s t b m y = 0
      · rw [if_neg (fun k => k h3)]
        refine Or.inr ⟨h3, ?_⟩
        by_cases h4 : (toldsF b m y lab fmt (chLst s t b m y)).length > 4194304
        · rw [if_pos h4]; exact Or.inl ⟨h4, rfl⟩
        · rw [if_neg h4]; exact Or.inr ⟨by omega, rfl⟩
      · rw [if_pos h3]; exact Or.inl ⟨h3, rfl⟩
    · rw [if_pos h2]; exact Or.inl ⟨h2, rfl⟩
theorem mgTxt_bad {s t : List Chg} {b m y lab : List Byt} {fmt : Int} (h : mgErr s t b m y lab fmt ≠ 0) : mgTxt s t b m y lab fmt = [] ∧ mgCl s t b m y lab fmt = 0 := ⟨if_neg h, if_neg h⟩
theorem mgTxt_ok {s t : List Chg} {b m y lab : List Byt} {fmt : Int} (h : mgErr s t b m y lab fmt = 0) : mgTxt s t b m y lab fmt = toldsF b m y lab fmt (chLst s t b m y) ∧ mgCl s t b m y lab fmt = clF fmt (chLst s t b m y) := ⟨if_pos h, if_pos h⟩
/-- A piece that is written: it is not empty, and not too long. -/
def okP (x : Byt) : Prop := x ≠ [] ∧ x.length ≤ 4194304
theorem ends_ok (l : List Byt) : ∀ x ∈ endsP l, okP x := by
  unfold endsP
  split
  · intro x hx; cases hx
  · intro x hx
    rw [List.mem_singleton.1 hx]
    exact ⟨by decide, by decide⟩
theorem lines_ok {l : List Byt} (h : ∀ x ∈ l, okP x) (e : Bool) : ∀ x ∈ linesP l e, okP x := by
  intro x hx
  rcases List.mem_append.1 hx with hx | hx
  · exact h x hx
  · cases e with
    | false => cases hx
    | true => exact ends_ok l x hx
theorem seg_ok {l : List Byt} (h : ∀ x ∈ l, okP x) (i j : Int) : ∀ x ∈ segL l i j, okP x := fun x hx => h x (List.mem_of_mem_drop (List.mem_of_mem_take hx))
theorem mark_ok (c : UInt8) {l : Byt} (h : l.length ≤ 4096) : okP (markP c l) := ⟨mark_ne c l, by have := mk_len c h; omega⟩
theorem tell_ok {b m y lab : List Byt} {fmt : Int} (hb : ∀ x ∈ b, okP x) (hm : ∀ x ∈ m, okP x) (hy : ∀ x ∈ y, okP x) (hl : ∀ i, (lab.getD i []).length ≤ 4096) (c : Chk) (last : Bool) : ∀ x ∈ tellP b m y lab fmt c last, okP x := by
  have h1 := seg_ok hm c.m (c.m + c.mn)
  have h2 := seg_ok hy c.y (c.y + c.yn)
  have h3 := seg_ok hb c.b (c.b + c.bn)
  intro x hx
  unfold tellP at hx
  split at hx
  · exact lines_ok h2 _ x hx
  · split at hx
    · rcases List.mem_append.1 hx with hx | hx
      · exact lines_ok h1 _ x hx
      · exact lines_ok h2 _ x hx
    · split at hx
      · rcases List.mem_cons.1 hx with rfl | hx
        · exact mark_ok 60 (hl 0)
        · rcases List.mem_append.1 hx with hx | hx
          · exact lines_ok h1 _ x hx
          · rcases List.mem_append.1 hx with hx | hx
            · split at hx
              · rcases List.mem_cons.1 hx with rfl | hx
                · exact mark_ok 124 (hl 1)
                · exact lines_ok h3 _ x hx
              · cases hx
            · rcases List.mem_cons.1 hx with rfl | hx
              · exact ⟨by decide, by decide⟩
              · rcases List.mem_append.1 hx with hx | hx
                · exact lines_ok h2 _ x hx
                · rw [List.mem_singleton.1 hx]
                  exact mark_ok 62 (hl 2)
      · exact lines_ok h1 _ x hx
theorem tells_ok {b m y lab : List Byt} {fmt : Int} (hb : ∀ x ∈ b, okP x) (hm : ∀ x ∈ m, okP x) (hy : ∀ x ∈ y, okP x) (hl : ∀ i, (lab.getD i []).length ≤ 4096) : ∀ l : List Chk, ∀ x ∈ tellsP b m y lab fmt l, okP x
  | [], x, hx => by cases hx
  | c :: r, x, hx => by
    rcases List.mem_append.1 hx with hx | hx
    · exact tell_ok hb hm hy hl c _ x hx
    · exact tells_ok hb hm hy hl r x hx
theorem putF_ne (f : Bool) {q : Byt} (s : Byt) (h : q ≠ []) : (putF f q s).2 ≠ [] := by
  unfold putF
  split
  · exact h
  · exact fun k => h (List.append_eq_nil_iff.1 k).1
theorem puts_ne : ∀ (ps : List Byt) (f : Bool) (q : Byt), q ≠ [] → ∀ f' q', puts (some (f, q)) ps = some (f', q') → q' ≠ []
  | [], f, q, h, f', q', e => by
    cases e
    exact h
  | s :: r, f, q, h, f', q', e => by
    rw [puts_cons, put_F] at e
    exact puts_ne r _ _ (putF_ne f s h) f' q' e
theorem puts_none_ne {ps : List Byt} (h : ∀ x ∈ ps, okP x) {f' : Bool} {q' : Byt} (e : puts none ps = some (f', q')) : q' ≠ [] := by
  cases ps with
  | nil => cases e
  | cons s r => exact puts_ne r false s (h s (List.mem_cons_self ..)).1 f' q' e
theorem puts_none_len {ps : List Byt} (h : ∀ x ∈ ps, okP x) {f' : Bool} {q' : Byt} (e : puts none ps = some (f', q')) : q'.length ≤ 4194304 := by
  cases ps with
  | nil => cases e
  | cons s r =>
    obtain ⟨f, q, e2, l⟩ := puts_some_ex r false s (h s (List.mem_cons_self ..)).2
    have e : puts (some (false, s)) r = some (f', q') := e
    rw [e2] at e
    cases e
    exact l
theorem valid_ok1 {L : List Byt} (h : validB L = true) (hf : L.flatten.length ≤ 4194304) : ∀ x ∈ L, okP x := fun x hx => ⟨valid_NE h x hx, by
  obtain ⟨i, hi, rfl⟩ := List.getElem_of_mem hx
  have := getD_flat L i
  rw [List.getD_eq_getElem?_getD, List.getElem?_eq_getElem hi] at this
  simp only [Option.getD_some] at this
  omega⟩
end Go.Proofs.YtlmjkphiicmclaaDoor
