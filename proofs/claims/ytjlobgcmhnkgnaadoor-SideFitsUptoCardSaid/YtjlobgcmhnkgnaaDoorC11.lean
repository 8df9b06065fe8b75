/- Chapter 15: no line is wider than the width; there are as many lines as there must be: the plain law. -/
import Derived.Test.YtjlobgcmhnkgnaaDoorC10
namespace Go.Proofs.YtjlobgcmhnkgnaaDoor
open Go Go.RowKit Vc

theorem splitG_line (rest : Byt) : ∀ (y cur : Byt), (10 : UInt8) ∉ y → splitG (y ++ 10 :: rest) cur = (cur ++ y ++ [10]) :: splitG rest []
  | [], cur, _ => by
    show splitG (10 :: rest) cur = _
    simp only [splitG, if_true, List.append_nil]
  | c :: r, cur, h => by
    have hc : ¬ c = 10 := fun e => h (by rw [e]; exact List.mem_cons_self ..)
    show splitG (c :: (r ++ 10 :: rest)) cur = _
    simp only [splitG, if_neg hc]
    rw [splitG_line rest r (cur ++ [c]) fun k => h (List.mem_cons_of_mem _ k)]
    simp
/-- A line with its end, of so many bytes at most. -/
def isLine (w : Int) (x : Byt) : Prop := ∃ y : Byt, x = y ++ [10] ∧ (10 : UInt8) ∉ y ∧ (y.length : Int) ≤ w
theorem split_lines (w : Int) : ∀ R : List Byt, (∀ x ∈ R, isLine w x) → splitF R.flatten = R
  | [], _ => rfl
  | x :: r, h => by
    obtain ⟨y, rfl, hy, _⟩ := h x (List.mem_cons_self ..)
    have ih := split_lines w r fun z hz => h z (List.mem_cons_of_mem _ hz)
    unfold splitF at ih ⊢
    rw [List.flatten_cons, List.append_assoc, List.singleton_append, splitG_line _ y [] hy, ih]
    rfl
theorem bare_line {y : Byt} : bareF (y ++ [10]) = y := by
  rw [bare_eq, whole_eq]
  simp
theorem nl_bare {x : Byt} (h : ∀ j, j + 1 < x.length → x.getD j 0 ≠ 10) : (10 : UInt8) ∉ bareF x := by
  rw [bare_eq]
  intro hm
  split at hm
  · obtain ⟨j, hj, e⟩ := List.getElem_of_mem hm
    rw [List.length_take] at hj
    rw [List.getElem_take] at e
    have := h j (by omega)
    rw [List.getD_eq_getElem?_getD, List.getElem?_eq_getElem (by omega)] at this
    exact this e
  · rename_i hw
    rw [whole_eq] at hw
    obtain ⟨j, hj, e⟩ := List.getElem_of_mem hm
    by_cases hl : j + 1 < x.length
    · have := h j hl
      rw [List.getD_eq_getElem?_getD, List.getElem?_eq_getElem (by omega)] at this
      exact this e
    · have hj2 : j = x.length - 1 := by omega
      subst hj2
      refine hw (decide_eq_true ⟨by omega, ?_⟩)
      rw [List.getD_eq_getElem?_getD, List.getElem?_eq_getElem hj]
      exact e
theorem nl_of {a : List Byt} (va : validB a = true) (j : Nat) : (10 : UInt8) ∉ bareF (a.getD j []) := by
  by_cases hj : j < a.length
  · have h := of_decide_eq_true va j hj
    exact nl_bare ((ok_iff _ _).1 h).2.1
  · rw [List.getD_eq_getElem?_getD, List.getElem?_eq_none (by omega)]
    exact nl_bare (fun k hk => by simp at hk)
theorem cutG_nl {col : Nat} {w : Int} : ∀ (s out : Byt), (10 : UInt8) ∉ s → (10 : UInt8) ∉ out → (10 : UInt8) ∉ cutG col w s out
  | [], out, _, h => h
  | c :: r, out, hs, h => by
    unfold cutG
    split
    · exact h
    · refine cutG_nl r _ (fun k => hs (List.mem_cons_of_mem _ k)) fun k => ?_
      rcases List.mem_append.1 k with k | k
      · exact h k
      · unfold cellF at k
        split at k
        · have := (List.mem_replicate.1 k).2
          exact absurd this (by decide)
        · have := List.mem_singleton.1 k
          exact hs (by rw [this]; exact List.mem_cons_self ..)
theorem beside_nl (a b : Byt) : besideF a b ≠ 10 := by
  unfold besideF
  split
  · decide
  · split
    · decide
    · split <;> decide
theorem row_line {old fresh : Byt} {mk : UInt8} {h d w : Int} (ho : (10 : UInt8) ∉ bareF old) (hf : (10 : UInt8) ∉ bareF fresh) (hm : mk ≠ 10) (h2 : 2 ≤ h) (hw : 2 * h + 3 ≤ w) : isLine w (rowF old mk fresh h d) := by
  have l1 := cutF_le old 0 h
  have l2 := cutF_le fresh d h
  have n1 : (10 : UInt8) ∉ cutF old 0 h := cutG_nl _ _ ho (by simp)
  have n2 : (10 : UInt8) ∉ cutF fresh d h := cutG_nl _ _ hf (by simp)
  unfold rowF
  split
  · exact ⟨_, rfl, n1, by omega⟩
  · refine ⟨_, rfl, ?_, ?_⟩
    · intro k
      simp only [List.mem_append, List.mem_singleton] at k
      rcases k with (((k | k) | k) | k) | k
      · exact n1 k
      · have := (List.mem_replicate.1 k).2
        exact absurd this (by decide)
      · exact absurd k (by decide)
      · exact hm k.symm
      · split at k
        · simp at k
        · simp only [List.mem_append, List.mem_singleton] at k
          rcases k with k | k
          · exact absurd k (by decide)
          · exact n2 k
    · split <;> (simp; omega)
/-- The lines, one by one. -/
def alkL (a b : List Byt) (h s : Int) : Nat → Int → Int → List Byt
  | 0, _, _ => []
  | n + 1, x, y => rowF (a.getD x.toNat []) (besideF (a.getD x.toNat []) (b.getD y.toNat [])) (b.getD y.toNat []) h s :: alkL a b h s n (x + 1) (y + 1)
def blkL (a b : List Byt) (h s : Int) (c : Chg) : Nat → Int → List Byt
  | 0, _ => []
  | n + 1, i => (if i ≥ c.M then rowF (a.getD (c.A + i).toNat []) 60 [] h s else if i ≥ c.N then rowF [] 62 (b.getD (c.B + i).toNat []) h s
      else rowF (a.getD (c.A + i).toNat []) (besideF (a.getD (c.A + i).toNat []) (b.getD (c.B + i).toNat [])) (b.getD (c.B + i).toNat []) h s) :: blkL a b h s c n (i + 1)
def prL (a b : List Byt) (h s : Int) : List Chg → Int → Int → List Byt
  | [], x, y => alkL a b h s ((a.length : Int) - x).toNat x y
  | c :: r, x, y => alkL a b h s (c.A - x).toNat x y ++ (blkL a b h s c (max c.N c.M).toNat 0 ++ prL a b h s r (c.A + c.N) (c.B + c.M))
theorem alkL_flat (a b : List Byt) (h s : Int) : ∀ (n : Nat) (x y : Int), (alkL a b h s n x y).flatten = alkF a b h s n x y
  | 0, _, _ => rfl
  | n + 1, x, y => by simp only [alkL, alkF, List.flatten_cons, alkL_flat a b h s n]
theorem blkL_flat (a b : List Byt) (h s : Int) (c : Chg) : ∀ (n : Nat) (i : Int), (blkL a b h s c n i).flatten = blkF a b h s c n i
  | 0, _ => rfl
  | n + 1, i => by simp only [blkL, blkF, List.flatten_cons, blkL_flat a b h s c n]
theorem prL_flat (a b : List Byt) (h s : Int) : ∀ (L : List Chg) (x y : Int), (prL a b h s L x y).flatten = prF a b h s L x y
  | [], x, y => alkL_flat ..
  | c :: r, x, y => by simp only [prL, prF, List.flatten_append, alkL_flat, blkL_flat, prL_flat a b h s r]
theorem alkL_len (a b : List Byt) (h s : Int) : ∀ (n : Nat) (x y : Int), (alkL a b h s n x y).length = n
  | 0, _, _ => rfl
  | n + 1, x, y => by simp only [alkL, List.length_cons, alkL_len a b h s n]
theorem blkL_len (a b : List Byt) (h s : Int) (c : Chg) : ∀ (n : Nat) (i : Int), (blkL a b h s c n i).length = n
  | 0, _ => rfl
  | n + 1, i => by simp only [blkL, List.length_cons, blkL_len a b h s c n]
/-- How many lines there must be. -/
def wantF : List Chg → Int → Int
  | [], acc => acc
  | c :: r, acc => wantF r (acc + max (c.M - c.N) 0)
theorem want_add : ∀ (L : List Chg) (x y : Int), wantF L (x + y) = x + wantF L y
  | [], _, _ => rfl
  | c :: r, x, y => by
    show wantF r (x + y + max (c.M - c.N) 0) = x + wantF r (y + max (c.M - c.N) 0)
    rw [Int.add_assoc, want_add r]
theorem prL_len (a b : List Byt) (h s : Int) : ∀ (L : List Chg) (x y : Int), validF L x y a.length b.length = 0 → x ≤ a.length → ((prL a b h s L x y).length : Int) = wantF L (a.length - x)
  | [], x, y, hv, hx => by
    show ((alkL a b h s ((a.length : Int) - x).toNat x y).length : Int) = (a.length : Int) - x
    rw [alkL_len]
    omega
  | c :: r, x, y, hv, hx => by
    obtain ⟨k1, k2⟩ := valid_cons hv
    unfold bad at k1
    have ih := prL_len a b h s r _ _ k2 (by omega)
    simp only [prL, List.length_append, alkL_len, blkL_len, Int.natCast_add, ih]
    show _ = wantF r ((a.length : Int) - x + max (c.M - c.N) 0)
    rw [show (a.length : Int) - x + max (c.M - c.N) 0 = (c.A - x + max c.N c.M) + ((a.length : Int) - (c.A + c.N)) by omega, want_add]
    omega
section
variable {a b : List Byt} {h d w : Int} (va : validB a = true) (vb : validB b = true) (h2 : 2 ≤ h) (hw : 2 * h + 3 ≤ w)
include va vb h2 hw
theorem alkL_line : ∀ (n : Nat) (x y : Int), ∀ z ∈ alkL a b h d n x y, isLine w z
  | 0, _, _ => by intro z hz; cases hz
  | n + 1, x, y => by
    intro z hz
    rcases List.mem_cons.1 hz with rfl | hz
    · exact row_line (nl_of va _) (nl_of vb _) (beside_nl _ _) h2 hw
    · exact alkL_line n _ _ z hz
theorem blkL_line (c : Chg) : ∀ (n : Nat) (i : Int), ∀ z ∈ blkL a b h d c n i, isLine w z
  | 0, _ => by intro z hz; cases hz
  | n + 1, i => by
    intro z hz
    have ne : (10 : UInt8) ∉ bareF [] := by decide
    rcases List.mem_cons.1 hz with rfl | hz
    · split
      · exact row_line (nl_of va _) ne (by decide) h2 hw
      · split
        · exact row_line ne (nl_of vb _) (by decide) h2 hw
        · exact row_line (nl_of va _) (nl_of vb _) (beside_nl _ _) h2 hw
    · exact blkL_line c n _ z hz
theorem prL_line : ∀ (L : List Chg) (x y : Int), ∀ z ∈ prL a b h d L x y, isLine w z
  | [], x, y => alkL_line va vb h2 hw _ _ _
  | c :: r, x, y => by
    intro z hz
    rcases List.mem_append.1 hz with hz | hz
    · exact alkL_line va vb h2 hw _ _ _ z hz
    · rcases List.mem_append.1 hz with hz | hz
      · exact blkL_line va vb h2 hw c _ _ z hz
      · exact prL_line r _ _ z hz
end
theorem prF_len {a b : List Byt} {h d : Int} (h1 : 2 ≤ h) (h2 : h ≤ 4096) : ∀ (L : List Chg) (x y : Int), validF L x y a.length b.length = 0 → x ≤ a.length → y ≤ b.length →
    ((prF a b h d L x y).length : Int) ≤ 8200 * ((a.length - x) + (b.length - y))
  | [], x, y, hv, hx, hy => by
    have := alk_len a b (s := d) h1 h2 ((a.length : Int) - x).toNat x y
    show ((alkF a b h d ((a.length : Int) - x).toNat x y).length : Int) ≤ _
    omega
  | c :: r, x, y, hv, hx, hy => by
    obtain ⟨k1, k2⟩ := valid_cons hv
    unfold bad at k1
    have ih := prF_len h1 h2 (d := d) r _ _ k2 (by omega) (by omega)
    have l1 := alk_len a b (s := d) h1 h2 (c.A - x).toNat x y
    have l2 := blk_len a b (s := d) c h1 h2 (max c.N c.M).toNat 0
    simp only [prF, List.length_append, Int.natCast_add]
    omega
end Go.Proofs.YtjlobgcmhnkgnaaDoor
