/- Chapter 18: folded together: parts G3, G4, G5, G6. -/
import Derived.Test.YtlmjkphiicmclaaDoorMB
namespace Go.Proofs.YtlmjkphiicmclaaDoor
open Go Go.RowKit Vc

def NE (l : List Byt) : Prop := ∀ x ∈ l, x ≠ []
/-- The end that the last line lacks. -/
def endsP (l : List Byt) : List Byt := if l = [] ∨ wholeF (l.getD (l.length - 1) []) = true then [] else [[10]]
def linesP (l : List Byt) (e : Bool) : List Byt := l ++ (if e then endsP l else [])
def addE (last : Bool) (t : Byt) : Byt := if last = false ∧ t ≠ [] ∧ wholeF t = false then t ++ [10] else t
def markP (c : UInt8) (l : Byt) : Byt := [c, c, c, c, c, c, c, 32] ++ l ++ [10]
abbrev eqsP : Byt := [61, 61, 61, 61, 61, 61, 61, 10]
def tellP (b m y lab : List Byt) (fmt : Int) (c : Chk) (last : Bool) : List Byt :=
  if c.k = 3 ∨ (c.k = 5 ∧ fmt = 5) then linesP (segL y c.y (c.y + c.yn)) (!last)
  else if c.k = 5 ∧ fmt = 3 then linesP (segL m c.m (c.m + c.mn)) true ++ linesP (segL y c.y (c.y + c.yn)) (!last)
  else if c.k = 5 ∧ fmt < 3 then
    markP 60 (lab.getD 0 []) :: (linesP (segL m c.m (c.m + c.mn)) true ++ ((if fmt = 2 then markP 124 (lab.getD 1 []) :: linesP (segL b c.b (c.b + c.bn)) true else []) ++
      (eqsP :: (linesP (segL y c.y (c.y + c.yn)) true ++ [markP 62 (lab.getD 2 [])]))))
  else linesP (segL m c.m (c.m + c.mn)) (!last)
/-- The document's text of a chunk. -/
def toldT (b m y lab : List Byt) (fmt : Int) (c : Chk) : Byt :=
  if c.k = 3 ∨ (c.k = 5 ∧ fmt = 5) then (segL y c.y (c.y + c.yn)).flatten
  else if c.k = 5 ∧ fmt = 3 then addE false (segL m c.m (c.m + c.mn)).flatten ++ (segL y c.y (c.y + c.yn)).flatten
  else if c.k = 5 ∧ fmt < 3 then
    markP 60 (lab.getD 0 []) ++ (addE false (segL m c.m (c.m + c.mn)).flatten ++ ((if fmt = 2 then markP 124 (lab.getD 1 []) ++ addE false (segL b c.b (c.b + c.bn)).flatten else []) ++
      (eqsP ++ (addE false (segL y c.y (c.y + c.yn)).flatten ++ markP 62 (lab.getD 2 [])))))
  else (segL m c.m (c.m + c.mn)).flatten
def toldF (b m y lab : List Byt) (fmt : Int) (c : Chk) (last : Bool) : Byt := addE last (toldT b m y lab fmt c)

theorem flat_nil {l : List Byt} (h : NE l) : l.flatten = [] ↔ l = [] := by
  cases l with
  | nil => simp
  | cons x r =>
    have := h x (List.mem_cons_self ..)
    simp [this]
theorem last_of (a : Byt) {t : Byt} (h : t ≠ []) : (a ++ t).getLast? = t.getLast? := by
  rw [List.getLast?_append]
  cases e : t.getLast? with
  | none => exact absurd (List.getLast?_eq_none_iff.1 e) h
  | some x => rfl
theorem whole_flat {l : List Byt} (h : NE l) (hn : l ≠ []) : wholeF l.flatten = wholeF (l.getD (l.length - 1) []) := by
  obtain ⟨o, x, rfl⟩ : ∃ o x, l = o ++ [x] := ⟨l.dropLast, l.getLast hn, (List.dropLast_concat_getLast hn).symm⟩
  have hx : x ≠ [] := h x (by simp)
  rw [show (o ++ [x]).getD ((o ++ [x]).length - 1) [] = x by simp [List.getD_eq_getElem?_getD], whole_last, whole_last]
  rw [List.flatten_append, List.flatten_cons, List.flatten_nil, List.append_nil, last_of _ hx]
theorem lines_flat {l : List Byt} (h : NE l) (e : Bool) : (linesP l e).flatten = addE (!e) l.flatten := by
  unfold linesP addE endsP
  cases e with
  | false => simp
  | true =>
    by_cases hn : l = []
    · subst hn; simp
    · have h1 : l.flatten ≠ [] := fun k => hn ((flat_nil h).1 k)
      rw [whole_flat h hn]
      cases hw : wholeF (l.getD (l.length - 1) []) <;> simp [hn, h1]
theorem whole_app (a : Byt) {t : Byt} (h : t ≠ []) : wholeF (a ++ t) = wholeF t := by
  rw [whole_last, whole_last, last_of _ h]
theorem whole_ten (a : Byt) : wholeF (a ++ [10]) = true := by
  rw [whole_last]; simp
theorem addE_ten (last : Bool) (a : Byt) : addE last (a ++ [10]) = a ++ [10] := by
  unfold addE
  rw [whole_ten]; simp
theorem addE_whole (t : Byt) : addE false t = [] ∨ wholeF (addE false t) = true := by
  unfold addE
  by_cases h : t = []
  · subst h; left; rfl
  · right
    cases hw : wholeF t with
    | true => simp [hw]
    | false => simp only [h, ne_eq, not_false_eq_true, and_self, if_true]; exact whole_ten t
theorem addE_app (last : Bool) (o t : Byt) : addE last (addE false o ++ t) = addE false o ++ addE last t := by
  by_cases h : t = []
  · subst h
    rw [List.append_nil]
    have e2 : addE last [] = [] := by unfold addE; simp
    rw [e2, List.append_nil]
    generalize hg : addE false o = g
    have hw := addE_whole o
    rw [hg] at hw
    unfold addE
    rcases hw with rfl | hw
    · simp
    · simp [hw]
  · generalize addE false o = g
    unfold addE
    rw [whole_app g h]
    cases last <;> cases wholeF t <;> simp [h]
theorem mark_ne (c : UInt8) (l : Byt) : markP c l ≠ [] := by simp [markP]
theorem seg_ne {l : List Byt} (h : NE l) (i j : Int) : NE (segL l i j) := fun x hx => h x (List.mem_of_mem_drop (List.mem_of_mem_take hx))
theorem tell_flat {b m y lab : List Byt} (hb : NE b) (hm : NE m) (hy : NE y) (fmt : Int) (c : Chk) (last : Bool) : (tellP b m y lab fmt c last).flatten = toldF b m y lab fmt c last := by
  have h1 := seg_ne hm c.m (c.m + c.mn)
  have h2 := seg_ne hy c.y (c.y + c.yn)
  have h3 := seg_ne hb c.b (c.b + c.bn)
  unfold tellP toldF toldT
  split
  · rw [lines_flat h2, Bool.not_not]
  · split
    · rw [List.flatten_append, lines_flat h1, lines_flat h2, Bool.not_not, Bool.not_true, addE_app]
    · split
      · have e : ∀ q : Byt, addE last (q ++ markP 62 (lab.getD 2 [])) = q ++ markP 62 (lab.getD 2 []) := fun q => by
          unfold markP
          rw [← List.append_assoc q, addE_ten]
        rw [← List.append_assoc eqsP, ← List.append_assoc (ite _ _ _), ← List.append_assoc (addE false _), ← List.append_assoc (markP 60 _), e]
        simp only [List.flatten_cons, List.flatten_append, lines_flat h1, lines_flat h2, Bool.not_true, List.flatten_nil, List.append_nil, List.append_assoc]
        split
        · simp only [List.flatten_cons, lines_flat h3, Bool.not_true]
        · simp only [List.flatten_nil]
      · rw [lines_flat h1, Bool.not_not]
/-- All pieces that are written. -/
def tellsP (b m y lab : List Byt) (fmt : Int) : List Chk → List Byt
  | [] => []
  | c :: r => tellP b m y lab fmt c r.isEmpty ++ tellsP b m y lab fmt r
def toldsF (b m y lab : List Byt) (fmt : Int) : List Chk → Byt
  | [] => []
  | c :: r => toldF b m y lab fmt c r.isEmpty ++ toldsF b m y lab fmt r
theorem tells_flat {b m y lab : List Byt} (hb : NE b) (hm : NE m) (hy : NE y) (fmt : Int) : ∀ l : List Chk, (tellsP b m y lab fmt l).flatten = toldsF b m y lab fmt l
  | [] => rfl
  | c :: r => by
    simp only [tellsP, toldsF, List.flatten_append]
    rw [tell_flat hb hm hy, tells_flat hb hm hy fmt r]
/-- A writer: nothing yet; else whether it is full, and what stands in it. -/
abbrev Wst := Option (Bool × Byt)
def put : Wst → Byt → Wst
  | none, s => some (false, s)
  | some (f, l), s => if f = true ∨ 4194304 - (l.length : Int) < s.length then some (true, l) else some (false, l ++ s)
def puts (w : Wst) (ps : List Byt) : Wst := ps.foldl put w
theorem puts_app (w : Wst) (p q : List Byt) : puts w (p ++ q) = puts (puts w p) q := List.foldl_append
theorem put_full (l s : Byt) : put (some (true, l)) s = some (true, l) := by simp [put]
theorem put_over {f : Bool} {l s : Byt} (h : 4194304 - (l.length : Int) < s.length) : put (some (f, l)) s = some (true, l) := by simp [put, h]
theorem put_fits {l s : Byt} (h : ¬ 4194304 - (l.length : Int) < s.length) : put (some (false, l)) s = some (false, l ++ s) := by simp only [put, h]; simp
def fullW : Wst → Bool
  | none => false
  | some (f, _) => f
def outW : Wst → Byt
  | none => []
  | some (_, l) => l
theorem puts_full : ∀ (ps : List Byt) (l : Byt), puts (some (true, l)) ps = some (true, l)
  | [], _ => rfl
  | s :: r, l => by
    show puts (put (some (true, l)) s) r = _
    rw [put_full, puts_full r l]
theorem puts_some : ∀ (ps : List Byt) (l : Byt), l.length ≤ 4194304 →
    (l.length + ps.flatten.length ≤ 4194304 → puts (some (false, l)) ps = some (false, l ++ ps.flatten)) ∧ (l.length + ps.flatten.length > 4194304 → fullW (puts (some (false, l)) ps) = true)
  | [], l, hl => ⟨fun _ => by simp [puts], fun h => by simp at h; omega⟩
  | s :: r, l, hl => by
    rw [show puts (some (false, l)) (s :: r) = puts (put (some (false, l)) s) r from rfl]
    by_cases h : 4194304 - (l.length : Int) < s.length
    · rw [put_over h, puts_full]
      exact ⟨fun k => by simp at k; omega, fun _ => rfl⟩
    · rw [put_fits h]
      have ih := puts_some r (l ++ s) (by rw [List.length_append]; omega)
      rw [List.length_append] at ih
      rw [List.flatten_cons, List.length_append]
      refine ⟨fun k => ?_, fun k => ih.2 (by omega)⟩
      rw [ih.1 (by omega), List.append_assoc]
theorem puts_none {ps : List Byt} (hp : ∀ x ∈ ps, x.length ≤ 4194304) :
    (ps.flatten.length ≤ 4194304 → fullW (puts none ps) = false ∧ outW (puts none ps) = ps.flatten) ∧ (ps.flatten.length > 4194304 → fullW (puts none ps) = true) := by
  cases ps with
  | nil => exact ⟨fun _ => ⟨rfl, rfl⟩, fun h => by simp at h⟩
  | cons s r =>
    have hs := hp s (List.mem_cons_self ..)
    rw [show puts none (s :: r) = puts (some (false, s)) r from rfl, List.flatten_cons, List.length_append]
    have h := puts_some r s hs
    exact ⟨fun k => by rw [h.1 k]; exact ⟨rfl, rfl⟩, fun k => h.2 k⟩
end Go.Proofs.YtlmjkphiicmclaaDoor

namespace Go.Proofs.YtlmjkphiicmclaaDoor
open Go Go.RowKit Vc

theorem hd_nxt {n t : Int} {L : List Chg} (h : hd L t = false) (ht : t ≤ n) : t ≤ nxt L n := by
  cases L with
  | nil => exact ht
  | cons c r =>
    have := of_decide_eq_false h
    show t ≤ c.A
    omega
/-- Where a group stands: both scripts are gone through as far as at most its end. -/
def gIn (n m1 m2 f x0 y0 : Int) (g : GS) : Prop :=
  f ≤ g.tw ∧ g.tw ≤ n ∧ (∃ zx, atF n m1 g.p zx g.mx ∧ f ≤ zx ∧ zx ≤ g.tw ∧ f + x0 ≤ zx + g.mx) ∧ (∃ zy, atF n m2 g.q zy g.my ∧ f ≤ zy ∧ zy ≤ g.tw ∧ f + y0 ≤ zy + g.my)
theorem gIn_X {n m1 m2 f x0 y0 : Int} {g : GS} (h : gIn n m1 m2 f x0 y0 g) (hp : hd g.p g.tw = true) : gIn n m1 m2 f x0 y0 g.takeX := by
  obtain ⟨p, q, tw, mx, my⟩ := g
  obtain ⟨h1, h2, ⟨zx, h3, h4, h5, h6⟩, ⟨zy, h7, h8, h9, h10⟩⟩ := h
  cases p with
  | nil => cases hp
  | cons c r =>
    dsimp only at h1 h2 h3 h4 h5 h6 h7 h8 h9 h10
    obtain ⟨k1, k2, k3, k4, k5, k6, k7, k8⟩ := at_take h3
    show f ≤ max tw (c.A + c.N) ∧ max tw (c.A + c.N) ≤ n ∧ (∃ z, atF n m1 r z (mx + (c.M - c.N)) ∧ f ≤ z ∧ z ≤ max tw (c.A + c.N) ∧ f + x0 ≤ z + (mx + (c.M - c.N))) ∧ (∃ z, atF n m2 q z my ∧ f ≤ z ∧ z ≤ max tw (c.A + c.N) ∧ f + y0 ≤ z + my)
    exact ⟨by omega, by omega, ⟨_, k1, by omega, by omega, by omega⟩, ⟨zy, h7, h8, by omega, h10⟩⟩
theorem gIn_Y {n m1 m2 f x0 y0 : Int} {g : GS} (h : gIn n m1 m2 f x0 y0 g) (hq : hd g.q g.tw = true) : gIn n m1 m2 f x0 y0 g.takeY := by
  obtain ⟨p, q, tw, mx, my⟩ := g
  obtain ⟨h1, h2, ⟨zx, h3, h4, h5, h6⟩, ⟨zy, h7, h8, h9, h10⟩⟩ := h
  cases q with
  | nil => cases hq
  | cons c r =>
    dsimp only at h1 h2 h3 h4 h5 h6 h7 h8 h9 h10
    obtain ⟨k1, k2, k3, k4, k5, k6, k7, k8⟩ := at_take h7
    show f ≤ max tw (c.A + c.N) ∧ max tw (c.A + c.N) ≤ n ∧ (∃ z, atF n m1 p z mx ∧ f ≤ z ∧ z ≤ max tw (c.A + c.N) ∧ f + x0 ≤ z + mx) ∧ (∃ z, atF n m2 r z (my + (c.M - c.N)) ∧ f ≤ z ∧ z ≤ max tw (c.A + c.N) ∧ f + y0 ≤ z + (my + (c.M - c.N)))
    exact ⟨by omega, by omega, ⟨zx, h3, h4, by omega, h6⟩, ⟨_, k1, by omega, by omega, by omega⟩⟩
theorem gth_in {n m1 m2 f x0 y0 : Int} : ∀ (k : Nat) (g : GS), gIn n m1 m2 f x0 y0 g → gIn n m1 m2 f x0 y0 (gth k g)
  | 0, _, h => h
  | k + 1, g, h => by
    unfold gth
    by_cases hp : hd g.p g.tw = true
    · rw [if_pos hp]; exact gth_in k _ (gIn_X h hp)
    · rw [if_neg hp]
      by_cases hq : hd g.q g.tw = true
      · rw [if_pos hq]; exact gth_in k _ (gIn_Y h hq)
      · rw [if_neg hq]; exact h
theorem gth_end : ∀ (k : Nat) (g : GS), g.p.length + g.q.length ≤ k → hd (gth k g).p (gth k g).tw = false ∧ hd (gth k g).q (gth k g).tw = false
  | 0, g, hl => by
    have hp : g.p = [] := List.length_eq_zero_iff.1 (by omega)
    have hq : g.q = [] := List.length_eq_zero_iff.1 (by omega)
    show hd g.p g.tw = false ∧ hd g.q g.tw = false
    rw [hp, hq]; exact ⟨rfl, rfl⟩
  | k + 1, g, hl => by
    unfold gth
    by_cases hp : hd g.p g.tw = true
    · rw [if_pos hp]
      have := hd_pos hp
      exact gth_end k _ (by show g.p.tail.length + g.q.length ≤ k; rw [List.length_tail]; omega)
    · rw [if_neg hp]
      by_cases hq : hd g.q g.tw = true
      · rw [if_pos hq]
        have := hd_pos hq
        exact gth_end k _ (by show g.p.length + g.q.tail.length ≤ k; rw [List.length_tail]; omega)
      · rw [if_neg hq]
        exact ⟨by simpa using hp, by simpa using hq⟩
theorem gIn_end {n m1 m2 f x0 y0 : Int} {g : GS} (h : gIn n m1 m2 f x0 y0 g) (hp : hd g.p g.tw = false) (hq : hd g.q g.tw = false) : atF n m1 g.p g.tw g.mx ∧ atF n m2 g.q g.tw g.my ∧ f ≤ g.tw ∧ g.tw ≤ n ∧ f + x0 ≤ g.tw + g.mx ∧ f + y0 ≤ g.tw + g.my := by
  obtain ⟨h1, h2, ⟨zx, h3, h4, h5, h6⟩, ⟨zy, h7, h8, h9, h10⟩⟩ := h
  exact ⟨at_on h3 h5 (hd_nxt hp h2) h2, at_on h7 h9 (hd_nxt hq h2) h2, h1, h2, by omega, by omega⟩
/-- Where the next group begins. -/
theorem gIn_new {n m1 m2 z mx my : Int} {p q : List Chg} (hx : atF n m1 p z mx) (hy : atF n m2 q z my) : gIn n m1 m2 (min (nxt p n) (nxt q n)) mx my ⟨p, q, min (nxt p n) (nxt q n), mx, my⟩ := by
  have h1 := nxt_range hx
  have h2 := nxt_range hy
  refine ⟨Int.le_refl _, ?_, ⟨_, at_on hx ?_ ?_ ?_, Int.le_refl _, Int.le_refl _, Int.le_refl _⟩, ⟨_, at_on hy ?_ ?_ ?_, Int.le_refl _, Int.le_refl _, Int.le_refl _⟩⟩
  · show min (nxt p n) (nxt q n) ≤ n
    omega
  all_goals first | omega | (dsimp only; omega)
theorem gth_len : ∀ (k : Nat) (g : GS), (gth k g).p.length ≤ g.p.length ∧ (gth k g).q.length ≤ g.q.length
  | 0, _ => ⟨Nat.le_refl _, Nat.le_refl _⟩
  | k + 1, g => by
    unfold gth
    by_cases hp : hd g.p g.tw = true
    · rw [if_pos hp]
      have h : (gth k g.takeX).p.length ≤ g.p.tail.length ∧ (gth k g.takeX).q.length ≤ g.q.length := gth_len k g.takeX
      rw [List.length_tail] at h
      omega
    · rw [if_neg hp]
      by_cases hq : hd g.q g.tw = true
      · rw [if_pos hq]
        have h : (gth k g.takeY).p.length ≤ g.p.length ∧ (gth k g.takeY).q.length ≤ g.q.tail.length := gth_len k g.takeY
        rw [List.length_tail] at h
        omega
      · rw [if_neg hq]; omega
theorem gth_mem : ∀ (k : Nat) (g : GS), (∀ c ∈ (gth k g).p, c ∈ g.p) ∧ (∀ c ∈ (gth k g).q, c ∈ g.q)
  | 0, _ => ⟨fun _ h => h, fun _ h => h⟩
  | k + 1, g => by
    unfold gth
    by_cases hp : hd g.p g.tw = true
    · rw [if_pos hp]
      have h : (∀ c ∈ (gth k g.takeX).p, c ∈ g.p.tail) ∧ (∀ c ∈ (gth k g.takeX).q, c ∈ g.q) := gth_mem k g.takeX
      exact ⟨fun c hc => List.mem_of_mem_tail (h.1 c hc), h.2⟩
    · rw [if_neg hp]
      by_cases hq : hd g.q g.tw = true
      · rw [if_pos hq]
        have h : (∀ c ∈ (gth k g.takeY).p, c ∈ g.p) ∧ (∀ c ∈ (gth k g.takeY).q, c ∈ g.q.tail) := gth_mem k g.takeY
        exact ⟨h.1, fun c hc => List.mem_of_mem_tail (h.2 c hc)⟩
      · rw [if_neg hq]; exact ⟨fun _ h => h, fun _ h => h⟩
theorem gth_lessX {k : Nat} {g : GS} (h : hd g.p g.tw = true) (hk : g.p.length + g.q.length ≤ k) : (gth k g).p.length < g.p.length := by
  have h1 := hd_pos h
  cases k with
  | zero => omega
  | succ k =>
    rw [gth_X h]
    have h2 : (gth k g.takeX).p.length ≤ g.p.tail.length := (gth_len k g.takeX).1
    rw [List.length_tail] at h2
    omega
theorem gth_lessY {k : Nat} {g : GS} (h : hd g.q g.tw = true) (hk : g.p.length + g.q.length ≤ k) : (gth k g).q.length < g.q.length := by
  have h1 := hd_pos h
  cases k with
  | zero => omega
  | succ k =>
    rw [gth_Y k g hk h]
    have h2 : (gth k g.takeY).q.length ≤ g.q.tail.length := (gth_len k g.takeY).2
    rw [List.length_tail] at h2
    omega
/-- A group takes a change at least. -/
theorem gth_less {n : Int} {p q : List Chg} {mx my : Int} (hp : ∀ c ∈ p, c.A ≤ n) (hq : ∀ c ∈ q, c.A ≤ n) (h : ¬ (p.length = 0 ∧ q.length = 0)) :
    (gth (p.length + q.length) ⟨p, q, min (nxt p n) (nxt q n), mx, my⟩).p.length < p.length ∨ (gth (p.length + q.length) ⟨p, q, min (nxt p n) (nxt q n), mx, my⟩).q.length < q.length := by
  by_cases c1 : hd p (min (nxt p n) (nxt q n)) = true
  · exact Or.inl (gth_lessX (g := ⟨p, q, _, mx, my⟩) c1 (Nat.le_refl _))
  · refine Or.inr (gth_lessY (g := ⟨p, q, _, mx, my⟩) ?_ (Nat.le_refl _))
    cases q with
    | nil =>
      cases p with
      | nil => exact absurd ⟨rfl, rfl⟩ h
      | cons c r =>
        exfalso
        apply c1
        have := hp c (List.mem_cons_self ..)
        refine decide_eq_true ?_
        show c.A ≤ min c.A n
        omega
    | cons d t =>
      refine decide_eq_true ?_
      show d.A ≤ min (nxt p n) d.A
      cases p with
      | nil =>
        have := hq d (List.mem_cons_self ..)
        show d.A ≤ min n d.A
        omega
      | cons c r =>
        have h2 : ¬ c.A ≤ min c.A d.A := fun k => c1 (decide_eq_true k)
        show d.A ≤ min c.A d.A
        omega
def GS.turn (g : GS) : GS := ⟨g.q, g.p, g.tw, g.my, g.mx⟩
theorem gth_turn : ∀ (k : Nat) (g : GS), g.p.length + g.q.length ≤ k → gth k g.turn = (gth k g).turn
  | 0, _, _ => rfl
  | k + 1, g, hl => by
    by_cases hp : hd g.p g.tw = true
    · have h1 := hd_pos hp
      rw [gth_X hp, gth_Y k g.turn (by show g.q.length + g.p.length ≤ k + 1; omega) hp]
      exact gth_turn k g.takeX (by show g.p.tail.length + g.q.length ≤ k; rw [List.length_tail]; omega)
    · by_cases hq : hd g.q g.tw = true
      · have h1 := hd_pos hq
        rw [gth_Y k g hl hq, gth_X (g := g.turn) hq]
        exact gth_turn k g.takeY (by show g.p.length + g.q.tail.length ≤ k; rw [List.length_tail]; omega)
      · have hp : hd g.p g.tw = false := by simpa using hp
        have hq : hd g.q g.tw = false := by simpa using hq
        rw [gth_done hp hq, gth_done (g := g.turn) hq hp]
def turnK (k : Int) : Int := if k = 2 then 3 else if k = 3 then 2 else k
def turnC (c : Chk) : Chk := ⟨turnK c.k, c.b, c.y, c.m, c.bn, c.yn, c.mn⟩
theorem kind_turn {mine yours : List Byt} {p q : List Chg} {f mx my : Int} {g : GS} (h : ¬ (g.p.length = p.length ∧ g.q.length = q.length)) : kindC yours mine q p f my mx g.turn = turnK (kindC mine yours p q f mx my g) := by
  unfold kindC
  show (if g.p.length = p.length then 2 else if g.q.length = q.length then 3 else if segL yours (f + my) (g.tw + g.my) = segL mine (f + mx) (g.tw + g.mx) then 4 else 5) = _
  by_cases c1 : g.p.length = p.length
  · have c2 : ¬ g.q.length = q.length := fun c => h ⟨c1, c⟩
    rw [if_pos c1, if_neg c2, if_pos c1]; rfl
  · rw [if_neg c1]
    by_cases c2 : g.q.length = q.length
    · rw [if_pos c2, if_pos c2]; rfl
    · rw [if_neg c2, if_neg c2, if_neg c1]
      by_cases c3 : segL mine (f + mx) (g.tw + g.mx) = segL yours (f + my) (g.tw + g.my)
      · rw [if_pos c3, if_pos c3.symm]; rfl
      · rw [if_neg c3, if_neg fun c => c3 c.symm]; rfl
theorem chF_turn {n : Int} {mine yours : List Byt} : ∀ (k : Nat) (p q : List Chg) (z mx my : Int), (∀ c ∈ p, c.A ≤ n) → (∀ c ∈ q, c.A ≤ n) → chF n yours mine k q p z my mx = (chF n mine yours k p q z mx my).map turnC
  | 0, _, _, _, _, _, _, _ => rfl
  | k + 1, p, q, z, mx, my, hp, hq => by
    simp only [chF, List.map_append]
    rw [show min (nxt q n) (nxt p n) = min (nxt p n) (nxt q n) by omega]
    have hl := gth_less (mx := mx) (my := my) hp hq
    have hm := gth_mem (p.length + q.length) ⟨p, q, min (nxt p n) (nxt q n), mx, my⟩
    have ht := gth_turn (p.length + q.length) ⟨p, q, min (nxt p n) (nxt q n), mx, my⟩ (Nat.le_refl _)
    rw [show (GS.turn ⟨p, q, min (nxt p n) (nxt q n), mx, my⟩) = ⟨q, p, min (nxt p n) (nxt q n), my, mx⟩ from rfl] at ht
    rw [Nat.add_comm q.length p.length, ht]
    generalize hg : gth (p.length + q.length) ⟨p, q, min (nxt p n) (nxt q n), mx, my⟩ = g at *
    congr 1
    · split
      · rfl
      · rfl
    · by_cases h0 : p.length = 0 ∧ q.length = 0
      · rw [if_pos h0, if_pos ⟨h0.2, h0.1⟩]; rfl
      · rw [if_neg h0, if_neg fun c => h0 ⟨c.2, c.1⟩, List.map_cons]
        have hne : ¬ (g.p.length = p.length ∧ g.q.length = q.length) := fun c => by
          rcases hl h0 with h | h <;> omega
        rw [kind_turn hne]
        congr 1
        exact chF_turn k g.p g.q g.tw g.mx g.my (fun c hc => hp c (hm.1 c hc)) (fun c hc => hq c (hm.2 c hc))
end Go.Proofs.YtlmjkphiicmclaaDoor

namespace Go.Proofs.YtlmjkphiicmclaaDoor
open Go Go.RowKit Vc

theorem diag_mem : ∀ (c : Nat) (a b i : Int), a ≤ i → i < a + c → (i, i + (b - a)) ∈ diag a b c
  | 0, _, _, _, h1, h2 => by omega
  | c + 1, a, b, i, h1, h2 => by
    rw [diag]
    by_cases h : i = a
    · subst h
      rw [show i + (b - i) = b by omega]
      exact List.mem_cons_self ..
    · have := diag_mem c (a + 1) (b + 1) i (by omega) (by omega)
      rw [show b + 1 - (a + 1) = b - a by omega] at this
      exact List.mem_cons_of_mem _ this
/-- Lines that stay by the rest of a script are the same. -/
def SP (a b : List Byt) (n : Int) (L : List Chg) (z mx : Int) : Prop := ∀ p ∈ pairsF L z (z + mx) n, sameP a b p
theorem diag_sub : ∀ (k c : Nat) (a b : Int), k ≤ c → ∀ p ∈ diag (a + k) (b + k) (c - k), p ∈ diag a b c
  | 0, c, a, b, _ => by
    intro p hp
    simpa using hp
  | k + 1, 0, a, b, h => by omega
  | k + 1, c + 1, a, b, h => by
    intro p hp
    rw [diag]
    refine List.mem_cons_of_mem _ (diag_sub k c (a + 1) (b + 1) (by omega) p ?_)
    rw [show c + 1 - (k + 1) = c - k by omega, show a + ((k + 1 : Nat) : Int) = a + 1 + (k : Int) by omega, show b + ((k + 1 : Nat) : Int) = b + 1 + (k : Int) by omega] at hp
    exact hp
theorem sp_on {a b : List Byt} {n z mx f : Int} {L : List Chg} (h : SP a b n L z mx) (h1 : z ≤ f) (h2 : f ≤ nxt L n) : SP a b n L f mx := by
  intro p hp
  apply h
  cases L with
  | nil =>
    have h2 : f ≤ n := h2
    show p ∈ diag z (z + mx) (n - z).toNat
    have := diag_sub (f - z).toNat (n - z).toNat z (z + mx) (by omega) p
    apply this
    rw [show (n - z).toNat - (f - z).toNat = (n - f).toNat by omega, show z + ((f - z).toNat : Int) = f by omega, show z + mx + ((f - z).toNat : Int) = f + mx by omega]
    exact hp
  | cons c r =>
    have h2 : f ≤ c.A := h2
    rcases List.mem_append.1 hp with hp | hp
    · refine List.mem_append.2 (Or.inl ?_)
      have := diag_sub (f - z).toNat (c.A - z).toNat z (z + mx) (by omega) p
      apply this
      rw [show (c.A - z).toNat - (f - z).toNat = (c.A - f).toNat by omega, show z + ((f - z).toNat : Int) = f by omega, show z + mx + ((f - z).toNat : Int) = f + mx by omega]
      exact hp
    · exact List.mem_append.2 (Or.inr hp)
theorem sp_take {a b : List Byt} {n m z mx : Int} {c : Chg} {r : List Chg} (hat : atF n m (c :: r) z mx) (h : SP a b n (c :: r) z mx) : SP a b n r (c.A + c.N) (mx + (c.M - c.N)) := by
  obtain ⟨k1, k2, k3, k4, k5, k6, k7, k8⟩ := at_take hat
  intro p hp
  apply h
  refine List.mem_append.2 (Or.inr ?_)
  rw [show c.B + c.M = c.A + c.N + (mx + (c.M - c.N)) by omega]
  exact hp
theorem sp_calm {a b : List Byt} {n z mx i : Int} {L : List Chg} (h : SP a b n L z mx) (h1 : z ≤ i) (h2 : i < nxt L n) : a.getD (0 + i.toNat) [] = b.getD (0 + (i + mx).toNat) [] := by
  have hm : (i, i + mx) ∈ pairsF L z (z + mx) n := by
    cases L with
    | nil =>
      have h2 : i < n := h2
      have := diag_mem (n - z).toNat z (z + mx) i h1 (by omega)
      rw [show z + mx - z = mx by omega] at this
      exact this
    | cons c r =>
      have h2 : i < c.A := h2
      have := diag_mem (c.A - z).toNat z (z + mx) i h1 (by omega)
      rw [show z + mx - z = mx by omega] at this
      exact List.mem_append.2 (Or.inl this)
  exact h _ hm
theorem seg_len (l : List Byt) {i j : Int} (h1 : 0 ≤ i) (h2 : i ≤ j) (h3 : j ≤ l.length) : (segL l i j).length = (j - i).toNat := by
  unfold segL
  rw [List.length_take, List.length_drop]
  omega
theorem seg_get (l : List Byt) {i j : Int} {k : Nat} (h1 : 0 ≤ i) (h2 : i + k < j) : (segL l i j).getD k [] = l.getD (i + k).toNat [] := by
  unfold segL
  rw [List.getD_eq_getElem?_getD, List.getD_eq_getElem?_getD, List.getElem?_take_of_lt (by omega), List.getElem?_drop]
  congr 2
  omega
theorem ext_getD {a b : List Byt} (hl : a.length = b.length) (h : ∀ k, k < a.length → a.getD k [] = b.getD k []) : a = b := by
  refine List.ext_getElem hl fun j hj hk => ?_
  have := h j hj
  simpa [List.getD_eq_getElem?_getD, hj, hk] using this
theorem seg_same {a b : List Byt} {i j d : Int} (h1 : 0 ≤ i) (h2 : i ≤ j) (h3 : j ≤ a.length) (h4 : 0 ≤ i + d) (h5 : j + d ≤ b.length) (h : ∀ k, i ≤ k → k < j → a.getD (0 + k.toNat) [] = b.getD (0 + (k + d).toNat) []) : segL a i j = segL b (i + d) (j + d) := by
  have l1 := seg_len a h1 h2 h3
  have l2 := seg_len b h4 (show i + d ≤ j + d by omega) h5
  refine ext_getD (by rw [l1, l2]; omega) fun k hk => ?_
  rw [l1] at hk
  rw [seg_get a h1 (by omega), seg_get b h4 (by omega)]
  have := h (i + k) (by omega) (by omega)
  rw [Nat.zero_add, Nat.zero_add] at this
  rw [this]
  congr 2
  omega
/-- The chunks cover all three from there on. -/
def covF (base mine yours : List Byt) : List Chk → Int → Int → Int → Prop
  | [], b, m, y => b = base.length ∧ m = mine.length ∧ y = yours.length
  | c :: r, b, m, y => c.b = b ∧ c.m = m ∧ c.y = y ∧ 0 ≤ c.bn ∧ 0 ≤ c.mn ∧ 0 ≤ c.yn ∧ c.bn + c.mn + c.yn ≠ 0 ∧ b + c.bn ≤ base.length ∧ m + c.mn ≤ mine.length ∧ y + c.yn ≤ yours.length ∧
      (c.k = 1 → segL base b (b + c.bn) = segL mine m (m + c.mn) ∧ segL mine m (m + c.mn) = segL yours y (y + c.yn)) ∧ (c.k = 4 → segL mine m (m + c.mn) = segL yours y (y + c.yn)) ∧
      (c.k = 5 → segL mine m (m + c.mn) ≠ segL yours y (y + c.yn)) ∧ covF base mine yours r (b + c.bn) (m + c.mn) (y + c.yn)
/-- A group: what stays by the rest of both scripts; whether anything has been taken it is not empty. -/
def gSt (base mine yours : List Byt) (f x0 y0 : Int) (g : GS) : Prop :=
  (∃ zx, atF base.length mine.length g.p zx g.mx ∧ SP base mine base.length g.p zx g.mx ∧ zx ≤ g.tw ∧ f ≤ zx ∧ f + x0 ≤ zx + g.mx ∧ (zx = f → g.mx ≥ x0)) ∧ (∃ zy, atF base.length yours.length g.q zy g.my ∧ SP base yours base.length g.q zy g.my ∧ zy ≤ g.tw ∧ f ≤ zy ∧ f + y0 ≤ zy + g.my ∧ (zy = f → g.my ≥ y0)) ∧ f ≤ g.tw
theorem gSt_X {base mine yours : List Byt} {f x0 y0 : Int} {g : GS} (h : gSt base mine yours f x0 y0 g) (hp : hd g.p g.tw = true) : gSt base mine yours f x0 y0 g.takeX ∧ (g.takeX.tw > f ∨ g.takeX.mx > x0) := by
  obtain ⟨p, q, tw, mx, my⟩ := g
  obtain ⟨⟨zx, h3, h4, h5, h6, h7, h7'⟩, ⟨zy, h8, h9, h10, h11, h12, h12'⟩, h13⟩ := h
  cases p with
  | nil => cases hp
  | cons c r =>
    dsimp only at *
    obtain ⟨k1, k2, k3, k4, k5, k6, k7, k8⟩ := at_take h3
    have hb := (valid_cons h3.1).1
    unfold bad at hb
    refine ⟨⟨⟨c.A + c.N, k1, sp_take h3 h4, ?_, ?_, ?_, ?_⟩, ⟨zy, h8, h9, ?_, h11, h12, h12'⟩, ?_⟩, ?_⟩
    · show c.A + c.N ≤ max tw (c.A + c.N); omega
    · omega
    · show f + x0 ≤ c.A + c.N + (mx + (c.M - c.N)); omega
    · intro e; show mx + (c.M - c.N) ≥ x0; omega
    · show zy ≤ max tw (c.A + c.N); omega
    · show f ≤ max tw (c.A + c.N); omega
    · show max tw (c.A + c.N) > f ∨ mx + (c.M - c.N) > x0; omega
theorem gSt_Y {base mine yours : List Byt} {f x0 y0 : Int} {g : GS} (h : gSt base mine yours f x0 y0 g) (hp : hd g.q g.tw = true) : gSt base mine yours f x0 y0 g.takeY ∧ (g.takeY.tw > f ∨ g.takeY.my > y0) := by
  obtain ⟨p, q, tw, mx, my⟩ := g
  obtain ⟨⟨zx, h3, h4, h5, h6, h7, h7'⟩, ⟨zy, h8, h9, h10, h11, h12, h12'⟩, h13⟩ := h
  cases q with
  | nil => cases hp
  | cons c r =>
    dsimp only at *
    obtain ⟨k1, k2, k3, k4, k5, k6, k7, k8⟩ := at_take h8
    have hb := (valid_cons h8.1).1
    unfold bad at hb
    refine ⟨⟨⟨zx, h3, h4, ?_, h6, h7, h7'⟩, ⟨c.A + c.N, k1, sp_take h8 h9, ?_, ?_, ?_, ?_⟩, ?_⟩, ?_⟩
    · show zx ≤ max tw (c.A + c.N); omega
    · show c.A + c.N ≤ max tw (c.A + c.N); omega
    · omega
    · show f + y0 ≤ c.A + c.N + (my + (c.M - c.N)); omega
    · intro e; show my + (c.M - c.N) ≥ y0; omega
    · show f ≤ max tw (c.A + c.N); omega
    · show max tw (c.A + c.N) > f ∨ my + (c.M - c.N) > y0; omega
theorem gth_some {base mine yours : List Byt} {f x0 y0 : Int} : ∀ (k : Nat) (g : GS), gSt base mine yours f x0 y0 g → (g.tw > f ∨ g.mx > x0 ∨ g.my > y0) → gSt base mine yours f x0 y0 (gth k g) ∧ ((gth k g).tw > f ∨ (gth k g).mx > x0 ∨ (gth k g).my > y0)
  | 0, _, h, h2 => ⟨h, h2⟩
  | k + 1, g, h, h2 => by
    unfold gth
    by_cases hp : hd g.p g.tw = true
    · rw [if_pos hp]
      refine gth_some k _ (gSt_X h hp).1 ?_
      have := (gSt_X h hp).2
      rcases this with h | h
      · exact Or.inl h
      · exact Or.inr (Or.inl h)
    · rw [if_neg hp]
      by_cases hq : hd g.q g.tw = true
      · rw [if_pos hq]
        refine gth_some k _ (gSt_Y h hq).1 ?_
        have := (gSt_Y h hq).2
        rcases this with h | h
        · exact Or.inl h
        · exact Or.inr (Or.inr h)
      · rw [if_neg hq]; exact ⟨h, h2⟩
theorem kind_cases {mine yours : List Byt} {p q : List Chg} {f mx my : Int} {g : GS} : kindC mine yours p q f mx my g ≠ 1 ∧ (kindC mine yours p q f mx my g = 4 → segL mine (f + mx) (g.tw + g.mx) = segL yours (f + my) (g.tw + g.my)) ∧
    (kindC mine yours p q f mx my g = 5 → segL mine (f + mx) (g.tw + g.mx) ≠ segL yours (f + my) (g.tw + g.my)) := by
  unfold kindC
  by_cases c1 : g.q.length = q.length
  · rw [if_pos c1]; exact ⟨by decide, (fun k => absurd k (by decide)), (fun k => absurd k (by decide))⟩
  · rw [if_neg c1]
    by_cases c2 : g.p.length = p.length
    · rw [if_pos c2]; exact ⟨by decide, (fun k => absurd k (by decide)), (fun k => absurd k (by decide))⟩
    · rw [if_neg c2]
      by_cases c3 : segL mine (f + mx) (g.tw + g.mx) = segL yours (f + my) (g.tw + g.my)
      · rw [if_pos c3]; exact ⟨by decide, fun _ => c3, fun k => absurd k (by decide)⟩
      · rw [if_neg c3]; exact ⟨by decide, fun k => absurd k (by decide), fun _ => c3⟩
theorem le_valid {n m : Int} : ∀ (L : List Chg) (a b : Int), validF L a b n m = 0 → ∀ c ∈ L, c.A ≤ n
  | [], _, _, _ => fun c hc => by cases hc
  | d :: r, a, b, h => by
    obtain ⟨k1, k2⟩ := valid_cons h
    intro c hc
    rcases List.mem_cons.1 hc with rfl | hc
    · unfold bad at k1; omega
    · exact le_valid r _ _ k2 c hc
theorem le_of_at {n m : Int} {L : List Chg} {z mx : Int} (h : atF n m L z mx) : ∀ c ∈ L, c.A ≤ n := by
  exact le_valid L z (z + mx) h.1
theorem chF_cov {base mine yours : List Byt} : ∀ (k : Nat) (p q : List Chg) (z mx my : Int), p.length + q.length < k → atF base.length mine.length p z mx → atF base.length yours.length q z my → SP base mine base.length p z mx → SP base yours base.length q z my →
    covF base mine yours (chF base.length mine yours k p q z mx my) z (z + mx) (z + my)
  | 0, _, _, _, _, _, h, _, _, _, _ => by omega
  | k + 1, p, q, z, mx, my, hl, hx, hy, sx, sy => by
    have r1 := nxt_range hx
    have r2 := nxt_range hy
    have hs := gIn_new hx hy
    have hin := gth_in (p.length + q.length) _ hs
    have he := gth_end (p.length + q.length) ⟨p, q, min (nxt p base.length) (nxt q base.length), mx, my⟩ (Nat.le_refl _)
    have hle := gth_len (p.length + q.length) ⟨p, q, min (nxt p base.length) (nxt q base.length), mx, my⟩
    have hless := gth_less (mx := mx) (my := my) (le_of_at hx) (le_of_at hy)
    have f1 : z ≤ min (nxt p base.length) (nxt q base.length) := by omega
    have f2 : min (nxt p base.length) (nxt q base.length) ≤ nxt p base.length := by omega
    have f3 : min (nxt p base.length) (nxt q base.length) ≤ nxt q base.length := by omega
    have hx2 := at_on hx f1 f2 (by omega)
    have hy2 := at_on hy f1 f3 (by omega)
    have sx2 := sp_on sx f1 f2
    have sy2 := sp_on sy f1 f3
    have cx : ∀ i, z ≤ i → i < min (nxt p base.length) (nxt q base.length) → base.getD (0 + i.toNat) [] = mine.getD (0 + (i + mx).toNat) [] := fun i h1 h2 => sp_calm sx h1 (by omega)
    have cy : ∀ i, z ≤ i → i < min (nxt p base.length) (nxt q base.length) → base.getD (0 + i.toNat) [] = yours.getD (0 + (i + my).toNat) [] := fun i h1 h2 => sp_calm sy h1 (by omega)
    have hst : gSt base mine yours (min (nxt p base.length) (nxt q base.length)) mx my ⟨p, q, min (nxt p base.length) (nxt q base.length), mx, my⟩ :=
      ⟨⟨_, hx2, sx2, Int.le_refl _, Int.le_refl _, Int.le_refl _, fun _ => Int.le_refl _⟩, ⟨_, hy2, sy2, Int.le_refl _, Int.le_refl _, Int.le_refl _, fun _ => Int.le_refl _⟩, Int.le_refl _⟩
    have hso : ¬ (p.length = 0 ∧ q.length = 0) → gSt base mine yours (min (nxt p base.length) (nxt q base.length)) mx my (gth (p.length + q.length) ⟨p, q, min (nxt p base.length) (nxt q base.length), mx, my⟩) ∧
        ((gth (p.length + q.length) ⟨p, q, min (nxt p base.length) (nxt q base.length), mx, my⟩).tw > min (nxt p base.length) (nxt q base.length) ∨ (gth (p.length + q.length) ⟨p, q, min (nxt p base.length) (nxt q base.length), mx, my⟩).mx > mx ∨
          (gth (p.length + q.length) ⟨p, q, min (nxt p base.length) (nxt q base.length), mx, my⟩).my > my) := fun h0 => by
      cases hpq : p.length + q.length with
      | zero => omega
      | succ j =>
        by_cases hp : hd p (min (nxt p base.length) (nxt q base.length)) = true
        · rw [gth_X (g := ⟨p, q, min (nxt p base.length) (nxt q base.length), mx, my⟩) hp]
          have := gSt_X (g := ⟨p, q, min (nxt p base.length) (nxt q base.length), mx, my⟩) hst hp
          refine gth_some j _ this.1 ?_
          rcases this.2 with h | h
          · exact Or.inl h
          · exact Or.inr (Or.inl h)
        · have hq : hd q (min (nxt p base.length) (nxt q base.length)) = true := by
            have hp' : hd p (min (nxt p base.length) (nxt q base.length)) = false := by simpa using hp
            cases hq : hd q (min (nxt p base.length) (nxt q base.length)) with
            | true => rfl
            | false =>
              have := gth_done (n := p.length + q.length) (g := ⟨p, q, min (nxt p base.length) (nxt q base.length), mx, my⟩) hp' hq
              have h2 := hless h0
              rw [this] at h2
              dsimp only at h2
              omega
          rw [gth_Y j ⟨p, q, min (nxt p base.length) (nxt q base.length), mx, my⟩ (by show p.length + q.length ≤ j + 1; omega) hq]
          have := gSt_Y (g := ⟨p, q, min (nxt p base.length) (nxt q base.length), mx, my⟩) hst hq
          refine gth_some j _ this.1 ?_
          rcases this.2 with h | h
          · exact Or.inl h
          · exact Or.inr (Or.inr h)
    simp only [chF]
    generalize hf : min (nxt p base.length) (nxt q base.length) = f at *
    generalize hg : gth (p.length + q.length) ⟨p, q, f, mx, my⟩ = g at *
    dsimp only at hle
    obtain ⟨a1, a2, a3, a4, a5, a6⟩ := gIn_end hin he.1 he.2
    have tl : covF base mine yours (if p.length = 0 ∧ q.length = 0 then [] else mkC (kindC mine yours p q f mx my g) g.tw mx my f g.mx g.my :: chF base.length mine yours k g.p g.q g.tw g.mx g.my) f (f + mx) (f + my) := by
      by_cases h0 : p.length = 0 ∧ q.length = 0
      · rw [if_pos h0]
        have hp := List.length_eq_zero_iff.1 h0.1
        have hq := List.length_eq_zero_iff.1 h0.2
        subst hp hq
        have v1 := valid_nil hx2.1
        have v2 := valid_nil hy2.1
        have : f = base.length := by rw [← hf]; show min (base.length : Int) base.length = _; omega
        refine ⟨this, by omega, by omega⟩
      · rw [if_neg h0]
        obtain ⟨⟨⟨zx, b1, b2, b3, _⟩, ⟨zy, b4, b5, b6, _⟩, _⟩, hso⟩ := hso h0
        have s1 := sp_on b2 b3 (hd_nxt he.1 a4)
        have s2 := sp_on b5 b6 (hd_nxt he.2 a4)
        have ih := chF_cov k g.p g.q g.tw g.mx g.my (by have := hless h0; omega) a1 a2 s1 s2
        obtain ⟨kc1, kc2, kc3⟩ := kind_cases (mine := mine) (yours := yours) (p := p) (q := q) (f := f) (mx := mx) (my := my) (g := g)
        obtain ⟨_, _, a7, _, a8⟩ := a1
        obtain ⟨_, _, a9, _, a10⟩ := a2
        have e1 : f + (g.tw - f) = g.tw := by omega
        have e2 : f + mx + (g.tw + g.mx - f - mx) = g.tw + g.mx := by omega
        have e3 : f + my + (g.tw + g.my - f - my) = g.tw + g.my := by omega
        refine ⟨rfl, rfl, rfl, ?_, ?_, ?_, ?_, ?_, ?_, ?_, ?_, ?_, ?_, ?_⟩
        · show 0 ≤ g.tw - f; omega
        · show 0 ≤ g.tw + g.mx - f - mx; omega
        · show 0 ≤ g.tw + g.my - f - my; omega
        · show g.tw - f + (g.tw + g.mx - f - mx) + (g.tw + g.my - f - my) ≠ 0; omega
        · show f + (g.tw - f) ≤ _; omega
        · show f + mx + (g.tw + g.mx - f - mx) ≤ _; omega
        · show f + my + (g.tw + g.my - f - my) ≤ _; omega
        · exact fun e => absurd e kc1
        · show _ → segL mine (f + mx) (f + mx + (g.tw + g.mx - f - mx)) = segL yours (f + my) (f + my + (g.tw + g.my - f - my))
          rw [e2, e3]; exact kc2
        · show _ → segL mine (f + mx) (f + mx + (g.tw + g.mx - f - mx)) ≠ segL yours (f + my) (f + my + (g.tw + g.my - f - my))
          rw [e2, e3]; exact kc3
        · show covF base mine yours _ (f + (g.tw - f)) (f + mx + (g.tw + g.mx - f - mx)) (f + my + (g.tw + g.my - f - my))
          rw [e1, e2, e3]; exact ih
    by_cases hfz : f > z
    · rw [if_pos hfz, List.singleton_append]
      obtain ⟨_, q1, q2, q3, q4⟩ := hx2
      obtain ⟨_, _, q5, _, q6⟩ := hy2
      obtain ⟨_, t1, t2, _, _⟩ := hx
      obtain ⟨_, _, t3, _, _⟩ := hy
      have e1 : z + (f - z) = f := by omega
      have e2 : z + mx + (f + mx - z - mx) = f + mx := by omega
      have e3 : z + my + (f + my - z - my) = f + my := by omega
      refine ⟨rfl, rfl, rfl, ?_, ?_, ?_, ?_, ?_, ?_, ?_, ?_, ?_, ?_, ?_⟩
      · show 0 ≤ f - z; omega
      · show 0 ≤ f + mx - z - mx; omega
      · show 0 ≤ f + my - z - my; omega
      · show f - z + (f + mx - z - mx) + (f + my - z - my) ≠ 0; omega
      · show z + (f - z) ≤ _; omega
      · show z + mx + (f + mx - z - mx) ≤ _; omega
      · show z + my + (f + my - z - my) ≤ _; omega
      · show _ → segL base z (z + (f - z)) = segL mine (z + mx) (z + mx + (f + mx - z - mx)) ∧ segL mine (z + mx) (z + mx + (f + mx - z - mx)) = segL yours (z + my) (z + my + (f + my - z - my))
        rw [e1, e2, e3]
        intro _
        have g1 := seg_same (a := base) (b := mine) (i := z) (j := f) (d := mx) t1 f1 q3 t2 q4 cx
        have g2 := seg_same (a := base) (b := yours) (i := z) (j := f) (d := my) t1 f1 q3 t3 q6 cy
        exact ⟨g1, g1.symm.trans g2⟩
      · exact fun e => absurd e (show ¬ (1 : Int) = 4 by decide)
      · exact fun e => absurd e (show ¬ (1 : Int) = 5 by decide)
      · show covF base mine yours _ (z + (f - z)) (z + mx + (f + mx - z - mx)) (z + my + (f + my - z - my))
        rw [e1, e2, e3]; exact tl
    · have : f = z := by omega
      rw [if_neg hfz, List.nil_append, ← this]
      exact tl
end Go.Proofs.YtlmjkphiicmclaaDoor

namespace Go.Proofs.YtlmjkphiicmclaaDoor
open Go Go.RowKit Vc

theorem valid_whole {L : List Byt} (h : validB L = true) {i : Nat} (hi : i + 1 < L.length) : wholeF (L.getD i []) = true := by
  have h := of_decide_eq_true h i (by omega)
  obtain ⟨h1, h2⟩ := h
  rcases h2 with h2 | h2
  · have hp : 0 < (L.getD i []).length := List.length_pos_iff.2 h1
    have := idx_at (q := (L.getD i []).length - 1) (x := L.getD i []) (by rw [h2]; omega)
    rw [whole_eq]
    exact decide_eq_true ⟨hp, this.2.1⟩
  · omega
theorem valid_NE {L : List Byt} (h : validB L = true) : NE L := fun x hx => by
  obtain ⟨i, hi, rfl⟩ := List.getElem_of_mem hx
  have h := (of_decide_eq_true h i hi).1
  simpa [List.getD_eq_getElem?_getD, hi] using h
theorem lines_no {l : List Byt} (h : l = [] ∨ wholeF (l.getD (l.length - 1) []) = true) (e : Bool) : linesP l e = l := by
  unfold linesP endsP
  rw [if_pos h]; cases e <;> simp
/-- Ahead of a text's last line no end is added. -/
theorem seg_lines {L : List Byt} (hL : validB L = true) {i j : Int} (h1 : 0 ≤ i) (h2 : i ≤ j) (h3 : j < L.length) (e : Bool) : linesP (segL L i j) e = segL L i j := by
  refine lines_no ?_ e
  have hl := seg_len L h1 h2 (by omega)
  by_cases he : j = i
  · left; exact List.length_eq_zero_iff.1 (by rw [hl]; omega)
  · right
    rw [hl, seg_get L h1 (by omega)]
    exact valid_whole hL (by omega)
def pickF (m y : List Byt) (c : Chk) : List Byt := if c.k = 3 then segL y c.y (c.y + c.yn) else segL m c.m (c.m + c.mn)
def picksF (m y : List Byt) : List Chk → List Byt
  | [] => []
  | c :: r => pickF m y c ++ picksF m y r
/-- No two chunks that are changed stand side by side. -/
def adjF : List Chk → Prop
  | [] => True
  | [_] => True
  | c :: d :: r => (c.k = 1 ∨ d.k = 1) ∧ adjF (d :: r)
theorem tell_pick {b m y lab : List Byt} {fmt : Int} {c : Chk} {last : Bool} (hc : c.k ≠ 5) : tellP b m y lab fmt c last = linesP (pickF m y c) (!last) := by
  unfold tellP pickF
  by_cases h : c.k = 3
  · rw [if_pos (Or.inl h), if_pos h]
  · rw [if_neg (fun k => k.elim h fun k => hc k.1), if_neg (fun k => hc k.1), if_neg (fun k => hc k.1), if_neg h]
theorem lines_last (l : List Byt) : linesP l (!true) = l := by unfold linesP; simp
theorem tells_picks {b m y lab : List Byt} (hb : validB b = true) (hm : validB m = true) (hy : validB y = true) {fmt : Int} : ∀ (l : List Chk) (z u v : Int), 0 ≤ z → 0 ≤ u → 0 ≤ v → covF b m y l z u v → adjF l → (∀ c ∈ l, c.k ≠ 5) → tellsP b m y lab fmt l = picksF m y l
  | [], _, _, _, _, _, _, _, _, _ => rfl
  | [c], _, _, _, _, _, _, _, _, hk => by
    show tellP b m y lab fmt c true ++ [] = pickF m y c ++ []
    rw [tell_pick (hk c (List.mem_cons_self ..)), lines_last]
  | c :: d :: r, z, u, v, hz, hu, hv, hc, ha, hk => by
    obtain ⟨e1, e2, e3, p1, p2, p3, p4, p5, p6, p7, p8, p9, p10, hd⟩ := hc
    have ih := tells_picks hb hm hy (lab := lab) (fmt := fmt) (d :: r) (z + c.bn) (u + c.mn) (v + c.yn) (by omega) (by omega) (by omega) hd ha.2 (fun x hx => hk x (List.mem_cons_of_mem _ hx))
    obtain ⟨d1, d2, d3, q1, q2, q3, q4, q5, q6, q7, q8, _⟩ := hd
    show tellP b m y lab fmt c false ++ tellsP b m y lab fmt (d :: r) = pickF m y c ++ picksF m y (d :: r)
    rw [ih, tell_pick (hk c (List.mem_cons_self ..))]
    congr 1
    show linesP (pickF m y c) true = pickF m y c
    by_cases hc1 : c.k = 1
    · obtain ⟨g1, g2⟩ := p8 hc1
      unfold pickF
      rw [if_neg (by omega), e2]
      by_cases h1 : d.mn > 0
      · exact seg_lines hm (by omega) (by omega) (by omega) _
      · by_cases h2 : d.bn > 0
        · rw [← g1]
          exact seg_lines hb (by omega) (by omega) (by omega) _
        · rw [g2]
          exact seg_lines hy (by omega) (by omega) (by omega) _
    · have hd1 : d.k = 1 := ha.1.resolve_left hc1
      obtain ⟨g1, g2⟩ := q8 hd1
      have l1 := congrArg List.length g1
      have l2 := congrArg List.length g2
      rw [seg_len b (by omega) (by omega) (by omega), seg_len m (by omega) (by omega) (by omega)] at l1
      rw [seg_len m (by omega) (by omega) (by omega), seg_len y (by omega) (by omega) (by omega)] at l2
      unfold pickF
      split
      · rw [e3]; exact seg_lines hy (by omega) (by omega) (by omega) _
      · rw [e2]; exact seg_lines hm (by omega) (by omega) (by omega) _
theorem chF_first {n : Int} {mine yours : List Byt} {m1 m2 : Int} {k : Nat} {p q : List Chg} {z mx my : Int} (hx : atF n m1 p z mx) (hy : atF n m2 q z my) (h1 : hd p z = false) (h2 : hd q z = false) :
    chF n mine yours k p q z mx my = [] ∨ ∃ c r, chF n mine yours k p q z mx my = c :: r ∧ c.k = 1 := by
  cases k with
  | zero => exact Or.inl rfl
  | succ k =>
    have r1 := nxt_range hx
    have r2 := nxt_range hy
    simp only [chF]
    by_cases hf : min (nxt p n) (nxt q n) > z
    · rw [if_pos hf]
      exact Or.inr ⟨_, _, rfl, rfl⟩
    · rw [if_neg hf]
      have e : p.length = 0 ∧ q.length = 0 := by
        cases p with
        | nil =>
          cases q with
          | nil => exact ⟨rfl, rfl⟩
          | cons d t =>
            exfalso
            have := of_decide_eq_false h2
            have e1 : nxt ([] : List Chg) n = n := rfl
            have e2 : nxt (d :: t) n = d.A := rfl
            omega
        | cons c r =>
          exfalso
          have := of_decide_eq_false h1
          have e1 : nxt (c :: r) n = c.A := rfl
          cases q with
          | nil =>
            have e2 : nxt ([] : List Chg) n = n := rfl
            omega
          | cons d t =>
            have := of_decide_eq_false h2
            have e2 : nxt (d :: t) n = d.A := rfl
            omega
      rw [if_pos e]
      exact Or.inl rfl
theorem adj_cons {c : Chk} {l : List Chk} (h : adjF l) (hc : l = [] ∨ ∃ d r, l = d :: r ∧ d.k = 1) : adjF (c :: l) := by
  rcases hc with rfl | ⟨d, r, rfl, hd⟩
  · exact True.intro
  · exact ⟨Or.inr hd, h⟩
theorem adj_calm {c : Chk} {l : List Chk} (h : adjF l) (hc : c.k = 1) : adjF (c :: l) := by
  cases l with
  | nil => exact True.intro
  | cons d r => exact ⟨Or.inl hc, h⟩
theorem chF_adj {n : Int} {mine yours : List Byt} {m1 m2 : Int} : ∀ (k : Nat) (p q : List Chg) (z mx my : Int), atF n m1 p z mx → atF n m2 q z my → adjF (chF n mine yours k p q z mx my)
  | 0, _, _, _, _, _, _, _ => True.intro
  | k + 1, p, q, z, mx, my, hx, hy => by
    have hs := gIn_new hx hy
    have hin := gth_in (p.length + q.length) _ hs
    have he := gth_end (p.length + q.length) ⟨p, q, min (nxt p n) (nxt q n), mx, my⟩ (Nat.le_refl _)
    simp only [chF]
    generalize hf : min (nxt p n) (nxt q n) = f at *
    generalize hg : gth (p.length + q.length) ⟨p, q, f, mx, my⟩ = g at *
    obtain ⟨a1, a2, a3, a4, a5, a6⟩ := gIn_end hin he.1 he.2
    have tl : adjF (if p.length = 0 ∧ q.length = 0 then [] else mkC (kindC mine yours p q f mx my g) g.tw mx my f g.mx g.my :: chF n mine yours k g.p g.q g.tw g.mx g.my) := by
      split
      · exact True.intro
      · exact adj_cons (chF_adj k _ _ _ _ _ a1 a2) (chF_first a1 a2 he.1 he.2)
    split
    · exact adj_calm tl rfl
    · exact tl
end Go.Proofs.YtlmjkphiicmclaaDoor
