/- Chapter 18: a settled text: by mine it is what is settled by yours with both exchanged; without a clash the format does not matter. -/
import Derived.Test.YtlmjkphiicmclaaDoorT1
namespace Go.Proofs.YtlmjkphiicmclaaDoor
open Go Go.RowKit Vc

theorem told_set {b m y lab : List Byt} {c : Chk} {last : Bool} (hk : kOk c) (hs : sameC m y c) : toldF b y m lab 5 (turnC c) last = toldF b m y lab 4 c last := by
  unfold toldF
  congr 1
  unfold sameC at hs
  obtain ⟨k, cb, cm, cy, bn, mn, yn⟩ := c
  dsimp only at hk hs
  rcases hk with rfl | rfl | rfl | rfl | rfl
  · have hs := hs (Or.inl rfl)
    show (segL y cy (cy + yn)).flatten = (segL m cm (cm + mn)).flatten
    rw [hs]
  · rfl
  · rfl
  · have hs := hs (Or.inr rfl)
    show (segL y cy (cy + yn)).flatten = (segL m cm (cm + mn)).flatten
    rw [hs]
  · rfl
theorem tolds_set {b m y lab : List Byt} : ∀ l : List Chk, (∀ c ∈ l, kOk c ∧ sameC m y c) → toldsF b y m lab 5 (l.map turnC) = toldsF b m y lab 4 l
  | [], _ => rfl
  | c :: r, h => by
    obtain ⟨h1, h3⟩ := h c (List.mem_cons_self ..)
    show toldF b y m lab 5 (turnC c) (r.map turnC).isEmpty ++ toldsF b y m lab 5 (r.map turnC) = toldF b m y lab 4 c r.isEmpty ++ toldsF b m y lab 4 r
    rw [tolds_set r (fun x hx => h x (List.mem_cons_of_mem _ hx)), List.isEmpty_map, told_set h1 h3]
theorem told_fmt {b m y lab : List Byt} {f g : Int} {c : Chk} {last : Bool} (h5 : c.k ≠ 5) : toldF b m y lab f c last = toldF b m y lab g c last := by
  unfold toldF toldT
  congr 1
  by_cases h : c.k = 3
  · rw [if_pos (Or.inl h), if_pos (Or.inl h)]
  · rw [if_neg (fun k => k.elim h fun k => h5 k.1), if_neg (fun k => h5 k.1), if_neg (fun k => h5 k.1), if_neg (fun k => k.elim h fun k => h5 k.1), if_neg (fun k => h5 k.1), if_neg (fun k => h5 k.1)]
theorem tolds_fmt {b m y lab : List Byt} {f g : Int} : ∀ l : List Chk, (∀ c ∈ l, c.k ≠ 5) → toldsF b m y lab f l = toldsF b m y lab g l
  | [], _ => rfl
  | c :: r, h => by
    show toldF b m y lab f c r.isEmpty ++ toldsF b m y lab f r = toldF b m y lab g c r.isEmpty ++ toldsF b m y lab g r
    rw [tolds_fmt r (fun x hx => h x (List.mem_cons_of_mem _ hx)), told_fmt (f := f) (g := g) (h c (List.mem_cons_self ..))]
theorem clF_none {fmt : Int} (h : 3 ≤ fmt) : ∀ l : List Chk, clF fmt l = 0
  | [] => rfl
  | c :: r => by
    show (if c.k = 5 ∧ fmt < 3 then (1 : Int) else 0) + clF fmt r = 0
    rw [clF_none h r, if_neg (by omega)]
    rfl
theorem mg_err2 {s t : List Chg} {b m y lab : List Byt} {fmt : Int} (h : chErr s t b m y = 0) (hl : labE lab = 0) (h1 : 1 ≤ fmt) (h5 : fmt ≤ 5) : mgErr s t b m y lab fmt = if (toldsF b m y lab fmt (chLst s t b m y)).length > 4194304 then 2 else 0 := by
  unfold mgErr
  rw [if_neg (by omega), if_neg (fun k => k hl), if_neg (fun k => k h)]
theorem mg_set {s t : List Chg} {b m y lab : List Byt} (h : chErr s t b m y = 0) (hl : labE lab = 0) : mgErr t s b y m lab 5 = mgErr s t b m y lab 4 ∧ mgTxt t s b y m lab 5 = mgTxt s t b m y lab 4 := by
  have hc := chLst_cov h
  have hs := cov_same _ 0 0 0 hc.2.2.2
  have hk := chLst_kinds (s := s) (t := t) (b := b) (m := m) (y := y)
  have e1 := chLst_turn h
  have e2 : toldsF b y m lab 5 (chLst t s b y m) = toldsF b m y lab 4 (chLst s t b m y) := by
    rw [e1]
    exact tolds_set _ fun c hc => ⟨hk c hc, hs c hc⟩
  have e3 : mgErr t s b y m lab 5 = mgErr s t b m y lab 4 := by
    rw [mg_err2 h hl (by decide) (by decide), mg_err2 (chErr_turn.2 h) hl (by decide) (by decide), e2]
  refine ⟨e3, ?_⟩
  unfold mgTxt
  rw [e3, e2]
theorem mg_fmt {s t : List Chg} {b m y lab : List Byt} {f g : Int} (h : chErr s t b m y = 0) (hl : labE lab = 0) (h1 : 1 ≤ f) (h5 : f ≤ 5) (k1 : 1 ≤ g) (k5 : g ≤ 5) (hn : clashF (chLst s t b m y) = false) :
    mgErr s t b m y lab f = mgErr s t b m y lab g ∧ mgTxt s t b m y lab f = mgTxt s t b m y lab g := by
  have e := tolds_fmt (b := b) (m := m) (y := y) (lab := lab) (f := f) (g := g) _ (clash_no hn)
  have e3 : mgErr s t b m y lab f = mgErr s t b m y lab g := by rw [mg_err2 h hl h1 h5, mg_err2 h hl k1 k5, e]
  refine ⟨e3, ?_⟩
  unfold mgTxt
  rw [e3, e]
end Go.Proofs.YtlmjkphiicmclaaDoor
