/- Chapter 18: pieces of lists of strings held against each other: both walked; the chunks' steps. -/
import Derived.Test.YtlmjkphiicmclaaDoorGA
import Derived.Test.YtlmjkphiicmclaaDoorMA
namespace Go.Proofs.YtlmjkphiicmclaaDoor
open Go Go.RowKit Vc

set_option maxRecDepth 100000 in
set_option maxHeartbeats 8000000 in
theorem equalG_con (a b : List Byt) (ga gb : Nat → Byt) (ha : a.length ≤ 4194304) (hga : ∀ k, k < a.length → ga k = a.getD k []) (hgb : ∀ k, k < b.length → gb k = b.getD k []) :
    Con Tryd.prog glob 53 [.s 0 0 a.length, .s 1 0 b.length] [(0, .ro 1 a.length fun i => stEnc (ga i)), (1, .ro 1 b.length fun i => stEnc (gb i))] 2 (retV 2 (.v (.bool (decide (a = b))))) := by
  refine spec_intro (tab := tab) (N := 26) Tryd.func53 rfl rfl tab_ok mix rfl rfl _ rfl ?_
  intro B hG
  by_cases hl : a.length = b.length
  · repeat' (first | refine And.intro (by first | omega | (dsimp only; omega) | (show (_ : Bool) = true; kernel_rfl) | decide | (repeat' (first | refine And.intro ?_ ?_ | exact trivial | exact rfl))) ?_ | refine bcs_dec (fun h => ?_) (fun h => False.elim (by first | omega | exact h rfl)) | refine bcs_dec (fun h => False.elim (by omega)) (fun h => ?_) | refine bcs_dec (fun h => ?_) (fun h => ?_) | refine bcs_ndec (fun h => ?_) (fun h => ?_) | refine bcs_not ?_ | refine bcs_intro (fun h => ?_) (fun h => ?_) | refine And.intro ?_ ?_ | refine reg_tail (by kernel_rfl) ?_)
    · omega
    refine loop_rule (α := Nat) (fun i => ⟨[(0, .s 0 0 a.length), (1, .s 1 0 b.length), (12, .v (.int .i64 a.length)), (13, .v (.int .i64 i))], [(0, .ro 1 a.length fun i => stEnc (ga i)), (1, .ro 1 b.length fun i => stEnc (gb i))], 2⟩)
      (fun i => i ≤ a.length ∧ ∀ j, j < i → a.getD j [] = b.getD j []) (fun i => a.length - i) 0 [] ?_ ?_ ?_
    · exact ⟨Nat.zero_le _, fun j hj => absurd hj (by omega)⟩
    · (refine ⟨rfl, rfl, ?_, ?_⟩ <;> repeat' (first | refine And.intro ?_ ?_ | exact trivial | exact rfl | refine lt0 | refine lt1 ?_ | refine lt2 ?_ ?_ | refine lt3 ?_ ?_ ?_ | refine lt4 ?_ ?_ ?_ ?_ | exact veq_refl _ | decide | (intro i hi; repeat' (first | refine And.intro ?_ ?_ | exact trivial | exact rfl))))
      all_goals first | exact Nat.le_refl _ | omega
    rintro i ⟨h1, h2⟩
    by_cases hi : i < a.length
    · have e1 : ga (0 + (i : Int).toNat) = a.getD i [] := by rw [Nat.zero_add, Int.toNat_natCast, hga i hi]
      have e2 : gb (0 + (i : Int).toNat) = b.getD i [] := by rw [Nat.zero_add, Int.toNat_natCast, hgb i (by omega)]
      by_cases he : ga (0 + (i : Int).toNat) = gb (0 + (i : Int).toNat)
      · repeat' (first | refine And.intro (by first | omega | (dsimp only; omega) | (show (_ : Bool) = true; kernel_rfl) | (simp; done) | decide | (repeat' (first | refine And.intro ?_ ?_ | exact trivial | exact rfl | (simp; done)))) ?_ | refine bcs_dec (fun h => ?_) (fun h => False.elim (by first | omega | exact h rfl)) | refine bcs_dec (fun h => False.elim (by omega)) (fun h => ?_) | refine bcs_dec (fun h => ?_) (fun h => ?_) | refine bcs_ndec (fun h => ?_) (fun h => ?_) | refine bcs_not ?_ | refine And.intro ?_ ?_ | refine reg_tail (by kernel_rfl) ?_)
        refine bcs_t (by rw [bs_eq]; simpa using he) ?_
        repeat' (first | refine And.intro (by first | omega | (dsimp only; omega) | (show (_ : Bool) = true; kernel_rfl) | (simp; done) | decide | (repeat' (first | refine And.intro ?_ ?_ | exact trivial | exact rfl | (simp; done)))) ?_ | refine bcs_dec (fun h => ?_) (fun h => False.elim (by first | omega | exact h rfl)) | refine bcs_dec (fun h => False.elim (by omega)) (fun h => ?_) | refine bcs_dec (fun h => ?_) (fun h => ?_) | refine bcs_ndec (fun h => ?_) (fun h => ?_) | refine bcs_not ?_ | refine And.intro ?_ ?_ | refine reg_tail (by kernel_rfl) ?_)
        refine ⟨i + 1, [], ?_, ?_, ?_⟩
        · refine ⟨hi, fun j hj => ?_⟩
          rcases Nat.lt_succ_iff_lt_or_eq.1 hj with hj | rfl
          · exact h2 j hj
          · rw [e1, e2] at he; exact he
        · show a.length - (i + 1) < a.length - i
          omega
        · (refine ⟨rfl, rfl, ?_, ?_⟩ <;> repeat' (first | refine And.intro ?_ ?_ | exact trivial | exact rfl | refine lt0 | refine lt1 ?_ | refine lt2 ?_ ?_ | refine lt3 ?_ ?_ ?_ | refine lt4 ?_ ?_ ?_ ?_ | exact veq_refl _ | decide | (intro i hi; repeat' (first | refine And.intro ?_ ?_ | exact trivial | exact rfl))))
          all_goals first | exact Nat.le_refl _ | omega
      · have hne : ¬ a = b := fun e => he (by rw [e1, e2, e])
        repeat' (first | refine And.intro (by first | omega | (dsimp only; omega) | (show (_ : Bool) = true; kernel_rfl) | (simp; done) | decide | (repeat' (first | refine And.intro ?_ ?_ | exact trivial | exact rfl | (simp; done)))) ?_ | refine bcs_dec (fun h => ?_) (fun h => False.elim (by first | omega | exact h rfl)) | refine bcs_dec (fun h => False.elim (by omega)) (fun h => ?_) | refine bcs_dec (fun h => ?_) (fun h => ?_) | refine bcs_ndec (fun h => ?_) (fun h => ?_) | refine bcs_not ?_ | refine And.intro ?_ ?_ | refine reg_tail (by kernel_rfl) ?_)
        refine bcs_f (by rw [bs_eq]; simpa using he) ?_
        repeat' (first | refine And.intro (by first | omega | (dsimp only; omega) | (show (_ : Bool) = true; kernel_rfl) | (simp; done) | decide | (repeat' (first | refine And.intro ?_ ?_ | exact trivial | exact rfl | (simp; done)))) ?_ | refine bcs_dec (fun h => ?_) (fun h => False.elim (by first | omega | exact h rfl)) | refine bcs_dec (fun h => False.elim (by omega)) (fun h => ?_) | refine bcs_dec (fun h => ?_) (fun h => ?_) | refine bcs_ndec (fun h => ?_) (fun h => ?_) | refine bcs_not ?_ | refine And.intro ?_ ?_ | refine reg_tail (by kernel_rfl) ?_)
        rw [decide_eq_false hne]
        refine ret_plain ?_
        exact rfl
    · have heq : a = b := by
        refine List.ext_getElem hl fun j hj hk => ?_
        have := h2 j (by omega)
        simpa [List.getD_eq_getElem?_getD, hj, hk] using this
      repeat' (first | refine And.intro (by first | omega | (dsimp only; omega) | (show (_ : Bool) = true; kernel_rfl) | decide | (repeat' (first | refine And.intro ?_ ?_ | exact trivial | exact rfl))) ?_ | refine bcs_dec (fun h => ?_) (fun h => False.elim (by first | omega | exact h rfl)) | refine bcs_dec (fun h => False.elim (by omega)) (fun h => ?_) | refine bcs_dec (fun h => ?_) (fun h => ?_) | refine bcs_ndec (fun h => ?_) (fun h => ?_) | refine bcs_not ?_ | refine bcs_intro (fun h => ?_) (fun h => ?_) | refine And.intro ?_ ?_ | refine reg_tail (by kernel_rfl) ?_)
      rw [decide_eq_true heq]
      refine ret_plain ?_
      exact rfl
  · have hne : ¬ a = b := fun e => hl (by rw [e])
    repeat' (first | refine And.intro (by first | omega | (dsimp only; omega) | (show (_ : Bool) = true; kernel_rfl) | decide | (repeat' (first | refine And.intro ?_ ?_ | exact trivial | exact rfl))) ?_ | refine bcs_dec (fun h => ?_) (fun h => False.elim (by first | omega | exact h rfl)) | refine bcs_dec (fun h => False.elim (by omega)) (fun h => ?_) | refine bcs_dec (fun h => ?_) (fun h => ?_) | refine bcs_ndec (fun h => ?_) (fun h => ?_) | refine bcs_not ?_ | refine bcs_intro (fun h => ?_) (fun h => ?_) | refine And.intro ?_ ?_ | refine reg_tail (by kernel_rfl) ?_)
    · rw [decide_eq_false hne]
      refine ret_plain ?_
      exact rfl
    · omega
set_option maxRecDepth 100000 in
set_option maxHeartbeats 8000000 in
theorem sameG_con (a b : List Byt) (ga gb : Nat → Byt) (ha : a.length ≤ 4194304) (hga : ∀ k, k < a.length → ga k = a.getD k []) (hgb : ∀ k, k < b.length → gb k = b.getD k []) :
    Con Tryd.prog glob 32 [.s 0 0 a.length, .s 1 0 b.length] [(0, .ro 1 a.length fun i => stEnc (ga i)), (1, .ro 1 b.length fun i => stEnc (gb i))] 2 (retV 2 (.v (.bool (decide (a = b))))) := by
  refine spec_intro (tab := tab) (N := 26) Tryd.func32 rfl rfl tab_ok mix rfl rfl _ rfl ?_
  intro B hG
  by_cases hl : a.length = b.length
  · repeat' (first | refine And.intro (by first | omega | (dsimp only; omega) | (show (_ : Bool) = true; kernel_rfl) | decide | (repeat' (first | refine And.intro ?_ ?_ | exact trivial | exact rfl))) ?_ | refine bcs_dec (fun h => ?_) (fun h => False.elim (by first | omega | exact h rfl)) | refine bcs_dec (fun h => False.elim (by omega)) (fun h => ?_) | refine bcs_dec (fun h => ?_) (fun h => ?_) | refine bcs_ndec (fun h => ?_) (fun h => ?_) | refine bcs_not ?_ | refine bcs_intro (fun h => ?_) (fun h => ?_) | refine And.intro ?_ ?_ | refine reg_tail (by kernel_rfl) ?_)
    · omega
    refine loop_rule (α := Nat) (fun i => ⟨[(0, .s 0 0 a.length), (1, .s 1 0 b.length), (5, .v (.int .i64 i))], [(0, .ro 1 a.length fun i => stEnc (ga i)), (1, .ro 1 b.length fun i => stEnc (gb i))], 2⟩)
      (fun i => i ≤ a.length ∧ ∀ j, j < i → a.getD j [] = b.getD j []) (fun i => a.length - i) 0 [] ?_ ?_ ?_
    · exact ⟨Nat.zero_le _, fun j hj => absurd hj (by omega)⟩
    · (refine ⟨rfl, rfl, ?_, ?_⟩ <;> repeat' (first | refine And.intro ?_ ?_ | exact trivial | exact rfl | refine lt0 | refine lt1 ?_ | refine lt2 ?_ ?_ | refine lt3 ?_ ?_ ?_ | refine lt4 ?_ ?_ ?_ ?_ | exact veq_refl _ | decide | (intro i hi; repeat' (first | refine And.intro ?_ ?_ | exact trivial | exact rfl))))
      all_goals first | exact Nat.le_refl _ | omega
    rintro i ⟨h1, h2⟩
    by_cases hi : i < a.length
    · have e1 : ga (0 + (i : Int).toNat) = a.getD i [] := by rw [Nat.zero_add, Int.toNat_natCast, hga i hi]
      have e2 : gb (0 + (i : Int).toNat) = b.getD i [] := by rw [Nat.zero_add, Int.toNat_natCast, hgb i (by omega)]
      by_cases he : ga (0 + (i : Int).toNat) = gb (0 + (i : Int).toNat)
      · repeat' (first | refine And.intro (by first | omega | (dsimp only; omega) | (show (_ : Bool) = true; kernel_rfl) | (simp; done) | decide | (repeat' (first | refine And.intro ?_ ?_ | exact trivial | exact rfl | (simp; done)))) ?_ | refine bcs_dec (fun h => ?_) (fun h => False.elim (by first | omega | exact h rfl)) | refine bcs_dec (fun h => False.elim (by omega)) (fun h => ?_) | refine bcs_dec (fun h => ?_) (fun h => ?_) | refine bcs_ndec (fun h => ?_) (fun h => ?_) | refine bcs_not ?_ | refine And.intro ?_ ?_ | refine reg_tail (by kernel_rfl) ?_)
        refine bcs_t (by rw [bs_eq]; simpa using he) ?_
        repeat' (first | refine And.intro (by first | omega | (dsimp only; omega) | (show (_ : Bool) = true; kernel_rfl) | (simp; done) | decide | (repeat' (first | refine And.intro ?_ ?_ | exact trivial | exact rfl | (simp; done)))) ?_ | refine bcs_dec (fun h => ?_) (fun h => False.elim (by first | omega | exact h rfl)) | refine bcs_dec (fun h => False.elim (by omega)) (fun h => ?_) | refine bcs_dec (fun h => ?_) (fun h => ?_) | refine bcs_ndec (fun h => ?_) (fun h => ?_) | refine bcs_not ?_ | refine And.intro ?_ ?_ | refine reg_tail (by kernel_rfl) ?_)
        refine ⟨i + 1, [], ?_, ?_, ?_⟩
        · refine ⟨hi, fun j hj => ?_⟩
          rcases Nat.lt_succ_iff_lt_or_eq.1 hj with hj | rfl
          · exact h2 j hj
          · rw [e1, e2] at he; exact he
        · show a.length - (i + 1) < a.length - i
          omega
        · (refine ⟨rfl, rfl, ?_, ?_⟩ <;> repeat' (first | refine And.intro ?_ ?_ | exact trivial | exact rfl | refine lt0 | refine lt1 ?_ | refine lt2 ?_ ?_ | refine lt3 ?_ ?_ ?_ | refine lt4 ?_ ?_ ?_ ?_ | exact veq_refl _ | decide | (intro i hi; repeat' (first | refine And.intro ?_ ?_ | exact trivial | exact rfl))))
          all_goals first | exact Nat.le_refl _ | omega
      · have hne : ¬ a = b := fun e => he (by rw [e1, e2, e])
        repeat' (first | refine And.intro (by first | omega | (dsimp only; omega) | (show (_ : Bool) = true; kernel_rfl) | (simp; done) | decide | (repeat' (first | refine And.intro ?_ ?_ | exact trivial | exact rfl | (simp; done)))) ?_ | refine bcs_dec (fun h => ?_) (fun h => False.elim (by first | omega | exact h rfl)) | refine bcs_dec (fun h => False.elim (by omega)) (fun h => ?_) | refine bcs_dec (fun h => ?_) (fun h => ?_) | refine bcs_ndec (fun h => ?_) (fun h => ?_) | refine bcs_not ?_ | refine And.intro ?_ ?_ | refine reg_tail (by kernel_rfl) ?_)
        refine bcs_f (by rw [bs_eq]; simpa using he) ?_
        repeat' (first | refine And.intro (by first | omega | (dsimp only; omega) | (show (_ : Bool) = true; kernel_rfl) | (simp; done) | decide | (repeat' (first | refine And.intro ?_ ?_ | exact trivial | exact rfl | (simp; done)))) ?_ | refine bcs_dec (fun h => ?_) (fun h => False.elim (by first | omega | exact h rfl)) | refine bcs_dec (fun h => False.elim (by omega)) (fun h => ?_) | refine bcs_dec (fun h => ?_) (fun h => ?_) | refine bcs_ndec (fun h => ?_) (fun h => ?_) | refine bcs_not ?_ | refine And.intro ?_ ?_ | refine reg_tail (by kernel_rfl) ?_)
        rw [decide_eq_false hne]
        refine ret_plain ?_
        exact rfl
    · have heq : a = b := by
        refine List.ext_getElem hl fun j hj hk => ?_
        have := h2 j (by omega)
        simpa [List.getD_eq_getElem?_getD, hj, hk] using this
      repeat' (first | refine And.intro (by first | omega | (dsimp only; omega) | (show (_ : Bool) = true; kernel_rfl) | decide | (repeat' (first | refine And.intro ?_ ?_ | exact trivial | exact rfl))) ?_ | refine bcs_dec (fun h => ?_) (fun h => False.elim (by first | omega | exact h rfl)) | refine bcs_dec (fun h => False.elim (by omega)) (fun h => ?_) | refine bcs_dec (fun h => ?_) (fun h => ?_) | refine bcs_ndec (fun h => ?_) (fun h => ?_) | refine bcs_not ?_ | refine bcs_intro (fun h => ?_) (fun h => ?_) | refine And.intro ?_ ?_ | refine reg_tail (by kernel_rfl) ?_)
      rw [decide_eq_true heq]
      refine ret_plain ?_
      exact rfl
  · have hne : ¬ a = b := fun e => hl (by rw [e])
    repeat' (first | refine And.intro (by first | omega | (dsimp only; omega) | (show (_ : Bool) = true; kernel_rfl) | decide | (repeat' (first | refine And.intro ?_ ?_ | exact trivial | exact rfl))) ?_ | refine bcs_dec (fun h => ?_) (fun h => False.elim (by first | omega | exact h rfl)) | refine bcs_dec (fun h => False.elim (by omega)) (fun h => ?_) | refine bcs_dec (fun h => ?_) (fun h => ?_) | refine bcs_ndec (fun h => ?_) (fun h => ?_) | refine bcs_not ?_ | refine bcs_intro (fun h => ?_) (fun h => ?_) | refine And.intro ?_ ?_ | refine reg_tail (by kernel_rfl) ?_)
    · rw [decide_eq_false hne]
      refine ret_plain ?_
      exact rfl
    · omega
def calF (f z mx my : Int) : List Chk := if f > z then [mkC 1 f mx my z mx my] else []
theorem chF_more {n : Int} {m y : List Byt} {p q : List Chg} {k : Nat} {z mx my f : Int} {G : GS} (h : ¬ (p.length = 0 ∧ q.length = 0)) (hf : f = min (nxt p n) (nxt q n)) (hG : gth (p.length + q.length) ⟨p, q, f, mx, my⟩ = G) :
    chF n m y (k + 1) p q z mx my = calF f z mx my ++ (mkC (kindC m y p q f mx my G) G.tw mx my f G.mx G.my :: chF n m y k G.p G.q G.tw G.mx G.my) := by
  subst hG hf
  simp only [chF]
  rw [if_neg h]
  rfl
theorem chF_done {n : Int} {m y : List Byt} {p q : List Chg} {k : Nat} {z mx my f : Int} (h : p.length = 0 ∧ q.length = 0) (hf : f = min (nxt p n) (nxt q n)) : chF n m y (k + 1) p q z mx my = calF f z mx my := by
  subst hf
  simp only [chF]
  rw [if_pos h, List.append_nil]
  rfl
/-- A row of a piece: what the program reads there. -/
theorem seg_row (L : List Byt) {i j : Int} (h1 : 0 ≤ i) (h2 : i ≤ j) (h3 : j ≤ L.length) : ∀ k, k < (segL L i j).length → L.getD (k + i.toNat) [] = (segL L i j).getD k [] := fun k hk => by
  rw [seg_len L h1 h2 h3] at hk
  rw [seg_get L h1 (by omega)]
  congr 1
  omega
/-- What both ways lead into is proved once. -/
theorem use_rest {α1 α2 α3 α4 α5 α6 : Type} {C K : α1 → α2 → α3 → α4 → α5 → α6 → Prop} {g : Prop} (h1 : (∀ a b c d e f, C a b c d e f → K a b c d e f) → g) (h2 : ∀ a b c d e f, C a b c d e f → K a b c d e f) : g := h1 h2
end Go.Proofs.YtlmjkphiicmclaaDoor
