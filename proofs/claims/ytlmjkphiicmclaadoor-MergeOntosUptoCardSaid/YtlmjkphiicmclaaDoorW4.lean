/- Chapter 18: a chunk that is told: walked. Printed by gen_w4.py. -/
import Derived.Test.YtlmjkphiicmclaaDoorW3
import Derived.Test.YtlmjkphiicmclaaDoorM9b
import Derived.Test.YtlmjkphiicmclaaDoorCut
namespace Go.Proofs.YtlmjkphiicmclaaDoor
open Go Go.RowKit Vc

theorem putF_ok (f : Bool) {l : Byt} (s : Byt) (hl : l.length ≤ 4194304) : ∃ f' q', putF f l s = (f', q') ∧ q'.length ≤ 4194304 := ⟨_, _, rfl, putF_len f s hl⟩
theorem puts_some_ex : ∀ (ps : List Byt) (f : Bool) (q : Byt), q.length ≤ 4194304 → ∃ f' q', puts (some (f, q)) ps = some (f', q') ∧ q'.length ≤ 4194304
  | [], f, q, h => ⟨f, q, rfl, h⟩
  | s :: r, f, q, h => by
    rw [puts_cons, put_F]
    exact puts_some_ex r _ _ (putF_len f s h)
theorem puts_none_ex {ps : List Byt} (h0 : ps ≠ []) (h : (ps.getD 0 []).length ≤ 4194304) : ∃ f' q', puts none ps = some (f', q') ∧ q'.length ≤ 4194304 := by
  cases ps with
  | nil => exact absurd rfl h0
  | cons s r => exact puts_some_ex r false s h
theorem lines_ne {l : List Byt} (h : l ≠ []) (e : Bool) : linesP l e ≠ [] := by
  unfold linesP
  intro k
  exact h (List.append_eq_nil_iff.1 k).1
theorem lines_hd {l : List Byt} (h : l ≠ []) (e : Bool) : (linesP l e).getD 0 [] = l.getD 0 [] := by
  cases l with
  | nil => exact absurd rfl h
  | cons x r => rfl
theorem lines_nil (e : Bool) : linesP [] e = [] := by cases e <;> rfl
/-- What is known where a chunk is told. -/
structure TellOk (b m y lab : List Byt) (fmt : Int) (c : Chk) : Prop where
  hb : ∀ i, (b.getD i []).length ≤ 4194304
  hm : ∀ i, (m.getD i []).length ≤ 4194304
  hy : ∀ i, (y.getD i []).length ≤ 4194304
  hlab : ∀ i, (lab.getD i []).length ≤ 4096
  hbl : b.length ≤ 4194304
  hml : m.length ≤ 4194304
  hyl : y.length ≤ 4194304
  hl3 : lab.length = 3
  hf1 : 1 ≤ fmt
  hf2 : fmt ≤ 5
  hb1 : 0 ≤ c.b
  hb2 : 0 ≤ c.bn
  hb3 : c.b + c.bn ≤ b.length
  hm1 : 0 ≤ c.m
  hm2 : 0 ≤ c.mn
  hm3 : c.m + c.mn ≤ m.length
  hy1 : 0 ≤ c.y
  hy2 : 0 ≤ c.yn
  hy3 : c.y + c.yn ≤ y.length
theorem textU2_con (f : Bool) (l s : Byt) (hl : l.length ≤ 4194304) {f' : Bool} {l' : Byt} (h : putF f l s = (f', l')) :
    Con Tryd.prog glob 76 [.p 0 0 0, str s] [(0, wrU f), (1, byOwn l)] 2 (retM (.t []) [(0, wrV f'), (2, byOwn l')] 3) := by
  have := textU_con f l s hl
  rw [h] at this
  exact this
theorem puts_at {f f' : Bool} {l s l' : Byt} {r : List Byt} {w : Wst} (h : putF f l s = (f', l')) (k : puts (put (some (f, l)) s) r = w) : puts (some (f', l')) r = w := by
  rw [put_F, h] at k
  exact k
abbrev ckV (c : Chk) : SV := .a (ckEnc c)
theorem mk_app (k : UInt8) (l : Byt) : bs [k, k, k, k, k, k, k, 32] ++ bs l ++ bs [10] = bs (markP k l) := by rw [bs_app, bs_app]; rfl
theorem mk_len (k : UInt8) {l : Byt} (h : l.length ≤ 4096) : (markP k l).length ≤ 100000 := by
  unfold markP
  simp only [List.length_append, List.length_cons, List.length_nil]
  omega
theorem tellP_A1 {b m y lab : List Byt} {fmt : Int} {c : Chk} {last : Bool} (h : c.k = 3) : tellP b m y lab fmt c last = linesP (segL y c.y (c.y + c.yn)) (!last) := by
  unfold tellP
  rw [if_pos (Or.inl h)]
theorem tellP_A2 {b m y lab : List Byt} {fmt : Int} {c : Chk} {last : Bool} (h : c.k = 5 ∧ fmt = 5) : tellP b m y lab fmt c last = linesP (segL y c.y (c.y + c.yn)) (!last) := by
  unfold tellP
  rw [if_pos (Or.inr h)]
theorem tellP_B {b m y lab : List Byt} {fmt : Int} {c : Chk} {last : Bool} (h : c.k = 5 ∧ fmt = 3) : tellP b m y lab fmt c last = linesP (segL m c.m (c.m + c.mn)) true ++ linesP (segL y c.y (c.y + c.yn)) (!last) := by
  unfold tellP
  rw [if_neg (by omega), if_pos h]
theorem tellP_C1 {b m y lab : List Byt} {fmt : Int} {c : Chk} {last : Bool} (h : c.k = 5 ∧ fmt = 1) : tellP b m y lab fmt c last = markP 60 (lab.getD 0 []) :: (linesP (segL m c.m (c.m + c.mn)) true ++ (eqsP :: (linesP (segL y c.y (c.y + c.yn)) true ++ [markP 62 (lab.getD 2 [])]))) := by
  unfold tellP
  rw [if_neg (by omega), if_neg (by omega), if_pos (by omega), if_neg (by omega), List.nil_append]
theorem tellP_C2 {b m y lab : List Byt} {fmt : Int} {c : Chk} {last : Bool} (h : c.k = 5 ∧ fmt = 2) : tellP b m y lab fmt c last = markP 60 (lab.getD 0 []) :: (linesP (segL m c.m (c.m + c.mn)) true ++ (markP 124 (lab.getD 1 []) :: (linesP (segL b c.b (c.b + c.bn)) true ++ (eqsP :: (linesP (segL y c.y (c.y + c.yn)) true ++ [markP 62 (lab.getD 2 [])]))))) := by
  unfold tellP
  rw [if_neg (by omega), if_neg (by omega), if_pos (by omega), if_pos (by omega), List.cons_append]
theorem tellP_D1 {b m y lab : List Byt} {fmt : Int} {c : Chk} {last : Bool} (h : c.k = 5 ∧ fmt = 4) : tellP b m y lab fmt c last = linesP (segL m c.m (c.m + c.mn)) (!last) := by
  unfold tellP
  rw [if_neg (by omega), if_neg (by omega), if_neg (by omega)]
theorem tellP_D2 {b m y lab : List Byt} {fmt : Int} {c : Chk} {last : Bool} (h : c.k ≠ 3 ∧ c.k ≠ 5) : tellP b m y lab fmt c last = linesP (segL m c.m (c.m + c.mn)) (!last) := by
  unfold tellP
  rw [if_neg (by omega), if_neg (by omega), if_neg (by omega)]
end Go.Proofs.YtlmjkphiicmclaaDoor
