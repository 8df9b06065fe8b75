/- Chapter 18: folded together: parts M6, G2, M7, M8. -/
import Derived.Test.YtlmjkphiicmclaaDoorMA
import Derived.Test.YtlmjkphiicmclaaDoorVc29
namespace Go.Proofs.YtlmjkphiicmclaaDoor
open Go Go.RowKit Vc

/-- A piece of all three texts. -/
structure Chk where
  k : Int
  b : Int
  m : Int
  y : Int
  bn : Int
  mn : Int
  yn : Int
abbrev Chk.d : Chk := ⟨0, 0, 0, 0, 0, 0, 0⟩
abbrev ckEnc (c : Chk) : List SV := [.v (.int .i64 c.k), .v (.int .i64 c.b), .v (.int .i64 c.m), .v (.int .i64 c.y), .v (.int .i64 c.bn), .v (.int .i64 c.mn), .v (.int .i64 c.yn)]
abbrev ckRow (l : List Chk) : Nat → List SV := fun i => ckEnc (l.getD i Chk.d)
abbrev ckRo (l : List Chk) : Ch := .ro 7 l.length (ckRow l)
abbrev ckOwn (l : List Chk) : Ch := .own 37 7 l.length (ckRow l)
def smallI (x : Int) : Prop := -100000000 ≤ x ∧ x ≤ 100000000
set_option maxRecDepth 100000 in
set_option maxHeartbeats 16000000 in
theorem add_con (P Q : List Chg) (out : List Chk) (i n j l : Nat) (kd tw mx my z xm ym : Int) (ho : out.length ≤ 100000000) (h1 : smallI tw) (h2 : smallI mx) (h3 : smallI my) (h4 : smallI z) (h5 : smallI xm) (h6 : smallI ym) :
    Con Tryd.prog glob 49 [.v (.int .i64 kd), .v (.int .i64 tw), .v (.int .i64 mx), .v (.int .i64 my), .p 0 0 0, .p 1 0 0, .p 2 0 0, .p 3 0 0]
      [(0, .box 26 [.o 4]), (1, .box 3 [.v (.int .i64 z)]), (2, .box 87 [.p 5 0 0]), (3, .box 87 [.p 6 0 0]), (4, ckOwn out), (5, .box 89 [.s 7 i n, .v (.int .i64 xm)]), (6, .box 89 [.s 8 j l, .v (.int .i64 ym)]), (7, chRo P), (8, chRo Q)] 9
      (retM (.t []) [(0, .box 26 [.o 9]), (1, .box 3 [.v (.int .i64 tw)]), (2, .box 87 [.p 5 0 0]), (3, .box 87 [.p 6 0 0]), (9, ckOwn (out ++ [⟨kd, z, z + mx, z + my, tw - z, tw + xm - z - mx, tw + ym - z - my⟩])), (5, .box 89 [.s 7 i n, .v (.int .i64 xm)]), (6, .box 89 [.s 8 j l, .v (.int .i64 ym)])] 10) := by
  unfold smallI at *
  refine spec_intro (tab := tab) (N := 48) Tryd.func49 rfl rfl tab_ok mix rfl rfl _ rfl ?_
  intro B hG
  repeat' (first | refine Both.mk ?_ ?_ | refine And.intro (by first | omega | (dsimp only; omega) | (show (_ : Bool) = true; kernel_rfl) | decide | (repeat' (first | refine And.intro ?_ ?_ | exact trivial | exact rfl))) ?_ | refine bcs_dec (fun h => ?_) (fun h => False.elim (by first | omega | exact h rfl)) | refine bcs_dec (fun h => False.elim (by omega)) (fun h => ?_) | refine bcs_dec (fun h => ?_) (fun h => ?_) | refine bcs_ndec (fun h => ?_) (fun h => ?_) | refine bcs_not ?_ | refine And.intro ?_ ?_)
  refine reg_ord [1, 2, 3, 5, 6] (.early 1 (.early 2 (.early 3 (.early 4 (.early 5 (.early 6 (.early 7 (.early 8 (.early 9 (.early 10 (.early 11 (.early 12 (.early 13 (.early 14 (.early 15 (.early 16 (.early 17 (.early 18 (.early 19 (.early 20 (.early 21 (.early 22 (.early 23 (.early 24 (.early 25 (.early 26 (.early 27 (.early 28 (.early 29 (.early 30 (.early 31 (.fork 0 (.late 32 (.late 33 (.late 34 (.late 35 .nil)))) 32 (.fork 0 (.late 33 (.late 34 (.late 35 .nil))) 33 (.late 0 (.late 34 (.late 35 .nil)))))))))))))))))))))))))))))))))))) (by decide +kernel) rfl ?_
  intro B' hB'
  repeat' (first | refine Both.mk ?_ ?_ | refine And.intro (by first | omega | (dsimp only; omega) | (show (_ : Bool) = true; kernel_rfl) | decide | (repeat' (first | refine And.intro ?_ ?_ | exact trivial | exact rfl))) ?_ | refine bcs_dec (fun h => ?_) (fun h => False.elim (by first | omega | exact h rfl)) | refine bcs_dec (fun h => False.elim (by omega)) (fun h => ?_) | refine bcs_dec (fun h => ?_) (fun h => ?_) | refine bcs_ndec (fun h => ?_) (fun h => ?_) | refine bcs_not ?_ | refine And.intro ?_ ?_)
  all_goals
    refine app1 ckEnc Chk.d out ⟨kd, z, z + mx, z + my, tw - z, tw + xm - z - mx, tw + ym - z - my⟩ rfl rfl ?_
    repeat' (first | refine And.intro (by first | omega | (dsimp only; omega) | (show (_ : Bool) = true; kernel_rfl) | decide | (repeat' (first | refine And.intro ?_ ?_ | exact trivial | exact rfl))) ?_ | refine bcs_dec (fun h => ?_) (fun h => False.elim (by first | omega | exact h rfl)) | refine bcs_dec (fun h => False.elim (by omega)) (fun h => ?_) | refine bcs_dec (fun h => ?_) (fun h => ?_) | refine bcs_ndec (fun h => ?_) (fun h => ?_) | refine bcs_not ?_ | refine bcs_intro (fun h => ?_) (fun h => ?_) | refine And.intro ?_ ?_ | refine reg_tail (by kernel_rfl) ?_)
    refine ret_mem [.at 10 0] rfl rfl ?_ ?_
    · first | exact rfl | exact trivial
    · repeat' (first | refine And.intro ?_ ?_ | exact trivial)
      all_goals try first | exact rfl | exact veq_refl _ | omega | (simp; done)
      all_goals
        intro i hi
        repeat' (first | refine And.intro ?_ ?_ | exact trivial)
        all_goals exact rfl
end Go.Proofs.YtlmjkphiicmclaaDoor

namespace Go.Proofs.YtlmjkphiicmclaaDoor
open Go Go.RowKit Vc

def nxt (l : List Chg) (e : Int) : Int := match l with
  | [] => e
  | c :: _ => c.A
theorem next_nxt (P : List Chg) (i : Nat) (e : Int) : nextF P i e = nxt (P.drop i) e := by
  unfold nextF
  by_cases h : i < P.length
  · rw [if_pos h, drop_get Chg.d P i h]; rfl
  · rw [if_neg h, List.drop_of_length_le (by omega)]; rfl
/-- A chunk as it is put down: up to 'tw' of the base, 'z' where it begins, how much longer the texts were and are. -/
abbrev mkC (kd tw mx my z xm ym : Int) : Chk := ⟨kd, z, z + mx, z + my, tw - z, tw + xm - z - mx, tw + ym - z - my⟩
def segL (b : List Byt) (i j : Int) : List Byt := (b.drop i.toNat).take (j.toNat - i.toNat)
def kindC (mine yours : List Byt) (p q : List Chg) (f mx my : Int) (g : GS) : Int :=
  if g.q.length = q.length then 2 else if g.p.length = p.length then 3 else if segL mine (f + mx) (g.tw + g.mx) = segL yours (f + my) (g.tw + g.my) then 4 else 5
def chF (n : Int) (mine yours : List Byt) : Nat → List Chg → List Chg → Int → Int → Int → List Chk
  | 0, _, _, _, _, _ => []
  | k + 1, p, q, z, mx, my =>
    (if min (nxt p n) (nxt q n) > z then [mkC 1 (min (nxt p n) (nxt q n)) mx my z mx my] else []) ++
    (if p.length = 0 ∧ q.length = 0 then [] else
      mkC (kindC mine yours p q (min (nxt p n) (nxt q n)) mx my (gth (p.length + q.length) ⟨p, q, min (nxt p n) (nxt q n), mx, my⟩)) (gth (p.length + q.length) ⟨p, q, min (nxt p n) (nxt q n), mx, my⟩).tw mx my (min (nxt p n) (nxt q n))
          (gth (p.length + q.length) ⟨p, q, min (nxt p n) (nxt q n), mx, my⟩).mx (gth (p.length + q.length) ⟨p, q, min (nxt p n) (nxt q n), mx, my⟩).my ::
        chF n mine yours k (gth (p.length + q.length) ⟨p, q, min (nxt p n) (nxt q n), mx, my⟩).p (gth (p.length + q.length) ⟨p, q, min (nxt p n) (nxt q n), mx, my⟩).q (gth (p.length + q.length) ⟨p, q, min (nxt p n) (nxt q n), mx, my⟩).tw
          (gth (p.length + q.length) ⟨p, q, min (nxt p n) (nxt q n), mx, my⟩).mx (gth (p.length + q.length) ⟨p, q, min (nxt p n) (nxt q n), mx, my⟩).my)

/-- Up to 'z' of the base a script is gone through; its text is so much longer. -/
def atF (n m : Int) (L : List Chg) (z mx : Int) : Prop := validF L z (z + mx) n m = 0 ∧ 0 ≤ z ∧ 0 ≤ z + mx ∧ z ≤ n ∧ z + mx ≤ m
theorem valid_shift {n m x y z : Int} {L : List Chg} (h : validF L x y n m = 0) (h2 : z ≤ nxt L n) : validF L z (y + (z - x)) n m = 0 := by
  cases L with
  | nil =>
    have := valid_nil h
    show (if n - z ≠ m - (y + (z - x)) then (60 : Int) else 0) = 0
    rw [if_neg (by omega)]
  | cons c r =>
    obtain ⟨k1, k2⟩ := valid_cons h
    have h2 : z ≤ c.A := h2
    have nb : ¬ bad c z (y + (z - x)) n m := by unfold bad at k1 ⊢; omega
    show (if bad c z (y + (z - x)) n m then (60 : Int) else validF r (c.A + c.N) (c.B + c.M) n m) = 0
    rw [if_neg nb]; exact k2
/-- On to any place ahead of the next change. -/
theorem at_on {n m z mx f : Int} {L : List Chg} (h : atF n m L z mx) (h1 : z ≤ f) (h2 : f ≤ nxt L n) (h3 : f ≤ n) : atF n m L f mx := by
  obtain ⟨g1, g2, g3, g4, g5⟩ := h
  have hs := valid_shift g1 h2
  rw [show z + mx + (f - z) = f + mx by omega] at hs
  refine ⟨hs, by omega, by omega, h3, ?_⟩
  cases L with
  | nil => have := valid_nil hs; omega
  | cons c r =>
    obtain ⟨k1, _⟩ := valid_cons hs
    unfold bad at k1
    omega
theorem nxt_range {n m z mx : Int} {L : List Chg} (h : atF n m L z mx) : z ≤ nxt L n ∧ nxt L n ≤ n := by
  obtain ⟨g1, g2, g3, g4, g5⟩ := h
  cases L with
  | nil => exact ⟨g4, Int.le_refl _⟩
  | cons c r =>
    obtain ⟨k1, _⟩ := valid_cons g1
    unfold bad at k1
    show z ≤ c.A ∧ c.A ≤ n
    omega
/-- A change that is taken. -/
theorem at_take {n m z mx : Int} {c : Chg} {r : List Chg} (h : atF n m (c :: r) z mx) :
    atF n m r (c.A + c.N) (mx + (c.M - c.N)) ∧ z ≤ c.A ∧ 0 ≤ c.N ∧ 0 ≤ c.M ∧ c.A + c.N ≤ n ∧ c.B = c.A + mx ∧ c.B + c.M ≤ m ∧ 0 ≤ c.A := by
  obtain ⟨g1, g2, g3, g4, g5⟩ := h
  obtain ⟨k1, k2⟩ := valid_cons g1
  unfold bad at k1
  refine ⟨⟨?_, by omega, by omega, by omega, by omega⟩, by omega, by omega, by omega, by omega, by omega, by omega, by omega⟩
  rw [show c.A + c.N + (mx + (c.M - c.N)) = c.B + c.M by omega]
  exact k2
end Go.Proofs.YtlmjkphiicmclaaDoor

namespace Go.Proofs.YtlmjkphiicmclaaDoor
open Go Go.RowKit Vc

theorem len_of {a : List Byt} (ha : a.flatten.length ≤ 4194304) : ∀ x ∈ a, x.length ≤ 140737488355328 := fun x hx => by
  obtain ⟨i, hi, rfl⟩ := List.getElem_of_mem hx
  have := getD_flat a i
  rw [List.getD_eq_getElem?_getD, List.getElem?_eq_getElem hi] at this
  simp only [Option.getD_some] at this
  omega
set_option maxRecDepth 100000 in
set_option maxHeartbeats 8000000 in
theorem chunks_lines (s t : List Chg) (b m y : List Byt) (hb : b.flatten.length ≤ 4194304) (hm : m.flatten.length ≤ 4194304) (hy : y.flatten.length ≤ 4194304) (hbl : b.length ≤ 4194304) (hml : m.length ≤ 4194304) (hyl : y.length ≤ 4194304)
    (h : validB b = false ∨ validB m = false ∨ validB y = false) : Con Tryd.prog glob 29 [.s 0 0 s.length, .s 1 0 t.length, .s 2 0 b.length, .s 3 0 m.length, .s 4 0 y.length] [(0, chRo s), (1, chRo t), (2, stRo b), (3, stRo m), (4, stRo y)] 5 (retM (.t [.o 5, .v (.iface 67 (.int .i64 3))]) [(5, ckOwn [])] 6) := by
  have cb := lvalid_con b (by omega) (len_of hb)
  have cm := lvalid_con m (by omega) (len_of hm)
  have cy := lvalid_con y (by omega) (len_of hy)
  refine spec_intro (tab := tab) (N := 184) Tryd.func29 rfl rfl tab_ok mix rfl rfl _ rfl ?_
  intro B hG
  repeat' (first | refine And.intro (by first | omega | (dsimp only; omega) | (show (_ : Bool) = true; kernel_rfl) | decide | (repeat' (first | refine And.intro ?_ ?_ | exact trivial | exact rfl))) ?_ | refine bcs_dec (fun h => ?_) (fun h => False.elim (by first | omega | exact h rfl)) | refine bcs_dec (fun h => False.elim (by omega)) (fun h => ?_) | refine bcs_dec (fun h => ?_) (fun h => ?_) | refine bcs_ndec (fun h => ?_) (fun h => ?_) | refine bcs_not ?_ | refine bcs_intro (fun h => ?_) (fun h => ?_) | refine And.intro ?_ ?_ | refine reg_tail (by kernel_rfl) ?_)
  cases h1 : validB b with
  | false =>
    rw [h1] at cb
    refine call_rule [.at 2 0] (cb) hG ?_ ?_
    · (refine ⟨?_, ?_, rfl, rfl, rfl⟩ <;> repeat' (first | refine And.intro ?_ ?_ | exact trivial | exact rfl | refine lt0 | refine lt1 ?_ | refine lt2 ?_ ?_ | refine lt3 ?_ ?_ ?_ | refine lt4 ?_ ?_ ?_ ?_ | exact veq_refl _ | decide | (intro i hi; repeat' (first | refine And.intro ?_ ?_ | exact trivial | exact rfl))))
      all_goals first | exact Nat.le_refl _ | omega
    rintro _ _ _ ⟨rfl, rfl, rfl⟩
    repeat' (first | refine And.intro (by first | omega | (dsimp only; omega) | (show (_ : Bool) = true; kernel_rfl) | decide | (repeat' (first | refine And.intro ?_ ?_ | exact trivial | exact rfl))) ?_ | refine bcs_dec (fun h => ?_) (fun h => False.elim (by first | omega | exact h rfl)) | refine bcs_dec (fun h => False.elim (by omega)) (fun h => ?_) | refine bcs_dec (fun h => ?_) (fun h => ?_) | refine bcs_ndec (fun h => ?_) (fun h => ?_) | refine bcs_not ?_ | refine bcs_intro (fun h => ?_) (fun h => ?_) | refine And.intro ?_ ?_ | refine reg_tail (by kernel_rfl) ?_)
    refine ret_mem [.nil 7] rfl rfl ?_ ?_
    · repeat' (first | refine And.intro ?_ ?_ | exact trivial)
      all_goals exact rfl
    · repeat' (first | refine And.intro ?_ ?_ | exact trivial)
      all_goals exact rfl
  | true =>
    rw [h1] at cb
    refine call_rule [.at 2 0] (cb) hG ?_ ?_
    · (refine ⟨?_, ?_, rfl, rfl, rfl⟩ <;> repeat' (first | refine And.intro ?_ ?_ | exact trivial | exact rfl | refine lt0 | refine lt1 ?_ | refine lt2 ?_ ?_ | refine lt3 ?_ ?_ ?_ | refine lt4 ?_ ?_ ?_ ?_ | exact veq_refl _ | decide | (intro i hi; repeat' (first | refine And.intro ?_ ?_ | exact trivial | exact rfl))))
      all_goals first | exact Nat.le_refl _ | omega
    rintro _ _ _ ⟨rfl, rfl, rfl⟩
    repeat' (first | refine And.intro (by first | omega | (dsimp only; omega) | (show (_ : Bool) = true; kernel_rfl) | decide | (repeat' (first | refine And.intro ?_ ?_ | exact trivial | exact rfl))) ?_ | refine bcs_dec (fun h => ?_) (fun h => False.elim (by first | omega | exact h rfl)) | refine bcs_dec (fun h => False.elim (by omega)) (fun h => ?_) | refine bcs_dec (fun h => ?_) (fun h => ?_) | refine bcs_ndec (fun h => ?_) (fun h => ?_) | refine bcs_not ?_ | refine bcs_intro (fun h => ?_) (fun h => ?_) | refine And.intro ?_ ?_ | refine reg_tail (by kernel_rfl) ?_)
    cases h2 : validB m with
    | false =>
      rw [h2] at cm
      refine call_rule [.at 3 0] (cm) hG ?_ ?_
      · (refine ⟨?_, ?_, rfl, rfl, rfl⟩ <;> repeat' (first | refine And.intro ?_ ?_ | exact trivial | exact rfl | refine lt0 | refine lt1 ?_ | refine lt2 ?_ ?_ | refine lt3 ?_ ?_ ?_ | refine lt4 ?_ ?_ ?_ ?_ | exact veq_refl _ | decide | (intro i hi; repeat' (first | refine And.intro ?_ ?_ | exact trivial | exact rfl))))
        all_goals first | exact Nat.le_refl _ | omega
      rintro _ _ _ ⟨rfl, rfl, rfl⟩
      repeat' (first | refine And.intro (by first | omega | (dsimp only; omega) | (show (_ : Bool) = true; kernel_rfl) | decide | (repeat' (first | refine And.intro ?_ ?_ | exact trivial | exact rfl))) ?_ | refine bcs_dec (fun h => ?_) (fun h => False.elim (by first | omega | exact h rfl)) | refine bcs_dec (fun h => False.elim (by omega)) (fun h => ?_) | refine bcs_dec (fun h => ?_) (fun h => ?_) | refine bcs_ndec (fun h => ?_) (fun h => ?_) | refine bcs_not ?_ | refine bcs_intro (fun h => ?_) (fun h => ?_) | refine And.intro ?_ ?_ | refine reg_tail (by kernel_rfl) ?_)
      refine ret_mem [.nil 7] rfl rfl ?_ ?_
      · repeat' (first | refine And.intro ?_ ?_ | exact trivial)
        all_goals exact rfl
      · repeat' (first | refine And.intro ?_ ?_ | exact trivial)
        all_goals exact rfl
    | true =>
      have h3 : validB y = false := by
        rcases h with h | h | h
        · rw [h1] at h; cases h
        · rw [h2] at h; cases h
        · exact h
      rw [h2] at cm
      rw [h3] at cy
      refine call_rule [.at 3 0] (cm) hG ?_ ?_
      · (refine ⟨?_, ?_, rfl, rfl, rfl⟩ <;> repeat' (first | refine And.intro ?_ ?_ | exact trivial | exact rfl | refine lt0 | refine lt1 ?_ | refine lt2 ?_ ?_ | refine lt3 ?_ ?_ ?_ | refine lt4 ?_ ?_ ?_ ?_ | exact veq_refl _ | decide | (intro i hi; repeat' (first | refine And.intro ?_ ?_ | exact trivial | exact rfl))))
        all_goals first | exact Nat.le_refl _ | omega
      rintro _ _ _ ⟨rfl, rfl, rfl⟩
      repeat' (first | refine And.intro (by first | omega | (dsimp only; omega) | (show (_ : Bool) = true; kernel_rfl) | decide | (repeat' (first | refine And.intro ?_ ?_ | exact trivial | exact rfl))) ?_ | refine bcs_dec (fun h => ?_) (fun h => False.elim (by first | omega | exact h rfl)) | refine bcs_dec (fun h => False.elim (by omega)) (fun h => ?_) | refine bcs_dec (fun h => ?_) (fun h => ?_) | refine bcs_ndec (fun h => ?_) (fun h => ?_) | refine bcs_not ?_ | refine bcs_intro (fun h => ?_) (fun h => ?_) | refine And.intro ?_ ?_ | refine reg_tail (by kernel_rfl) ?_)
      refine call_rule [.at 4 0] (cy) hG ?_ ?_
      · (refine ⟨?_, ?_, rfl, rfl, rfl⟩ <;> repeat' (first | refine And.intro ?_ ?_ | exact trivial | exact rfl | refine lt0 | refine lt1 ?_ | refine lt2 ?_ ?_ | refine lt3 ?_ ?_ ?_ | refine lt4 ?_ ?_ ?_ ?_ | exact veq_refl _ | decide | (intro i hi; repeat' (first | refine And.intro ?_ ?_ | exact trivial | exact rfl))))
        all_goals first | exact Nat.le_refl _ | omega
      rintro _ _ _ ⟨rfl, rfl, rfl⟩
      repeat' (first | refine And.intro (by first | omega | (dsimp only; omega) | (show (_ : Bool) = true; kernel_rfl) | decide | (repeat' (first | refine And.intro ?_ ?_ | exact trivial | exact rfl))) ?_ | refine bcs_dec (fun h => ?_) (fun h => False.elim (by first | omega | exact h rfl)) | refine bcs_dec (fun h => False.elim (by omega)) (fun h => ?_) | refine bcs_dec (fun h => ?_) (fun h => ?_) | refine bcs_ndec (fun h => ?_) (fun h => ?_) | refine bcs_not ?_ | refine bcs_intro (fun h => ?_) (fun h => ?_) | refine And.intro ?_ ?_ | refine reg_tail (by kernel_rfl) ?_)
      refine ret_mem [.nil 7] rfl rfl ?_ ?_
      · repeat' (first | refine And.intro ?_ ?_ | exact trivial)
        all_goals exact rfl
      · repeat' (first | refine And.intro ?_ ?_ | exact trivial)
        all_goals exact rfl
set_option maxRecDepth 100000 in
set_option maxHeartbeats 8000000 in
theorem chunks_s (s t : List Chg) (b m y : List Byt) (hb : b.flatten.length ≤ 4194304) (hm : m.flatten.length ≤ 4194304) (hy : y.flatten.length ≤ 4194304) (hbl : b.length ≤ 4194304) (hml : m.length ≤ 4194304) (hyl : y.length ≤ 4194304)
    (vb : validB b = true) (vm : validB m = true) (vy : validB y = true) (hs : s.length ≤ 9223372036854775807) (hv : validE s b.length m.length ≠ 0) :
    Con Tryd.prog glob 29 [.s 0 0 s.length, .s 1 0 t.length, .s 2 0 b.length, .s 3 0 m.length, .s 4 0 y.length] [(0, chRo s), (1, chRo t), (2, stRo b), (3, stRo m), (4, stRo y)] 5 (retM (.t [.o 5, .v (.iface 67 (.int .i64 (validE s b.length m.length)))]) [(5, ckOwn [])] 6) := by
  have cb := lvalid_con b (by omega) (len_of hb); have cm := lvalid_con m (by omega) (len_of hm); have cy := lvalid_con y (by omega) (len_of hy); rw [vb] at cb; rw [vm] at cm; rw [vy] at cy
  have cN := normal_no (n := b.length) (m := m.length) hs hv
  refine spec_intro (tab := tab) (N := 184) Tryd.func29 rfl rfl tab_ok mix rfl rfl _ rfl ?_
  intro B hG
  repeat' (first | refine And.intro (by first | omega | (dsimp only; omega) | (show (_ : Bool) = true; kernel_rfl) | decide | (repeat' (first | refine And.intro ?_ ?_ | exact trivial | exact rfl))) ?_ | refine bcs_dec (fun h => ?_) (fun h => False.elim (by first | omega | exact h rfl)) | refine bcs_dec (fun h => False.elim (by omega)) (fun h => ?_) | refine bcs_dec (fun h => ?_) (fun h => ?_) | refine bcs_ndec (fun h => ?_) (fun h => ?_) | refine bcs_not ?_ | refine bcs_intro (fun h => ?_) (fun h => ?_) | refine And.intro ?_ ?_ | refine reg_tail (by kernel_rfl) ?_)
  refine call_rule [.at 2 0] (cb) hG ?_ ?_
  · (refine ⟨?_, ?_, rfl, rfl, rfl⟩ <;> repeat' (first | refine And.intro ?_ ?_ | exact trivial | exact rfl | refine lt0 | refine lt1 ?_ | refine lt2 ?_ ?_ | refine lt3 ?_ ?_ ?_ | refine lt4 ?_ ?_ ?_ ?_ | exact veq_refl _ | decide | (intro i hi; repeat' (first | refine And.intro ?_ ?_ | exact trivial | exact rfl))))
    all_goals first | exact Nat.le_refl _ | omega
  rintro _ _ _ ⟨rfl, rfl, rfl⟩
  repeat' (first | refine And.intro (by first | omega | (dsimp only; omega) | (show (_ : Bool) = true; kernel_rfl) | decide | (repeat' (first | refine And.intro ?_ ?_ | exact trivial | exact rfl))) ?_ | refine bcs_dec (fun h => ?_) (fun h => False.elim (by first | omega | exact h rfl)) | refine bcs_dec (fun h => False.elim (by omega)) (fun h => ?_) | refine bcs_dec (fun h => ?_) (fun h => ?_) | refine bcs_ndec (fun h => ?_) (fun h => ?_) | refine bcs_not ?_ | refine bcs_intro (fun h => ?_) (fun h => ?_) | refine And.intro ?_ ?_ | refine reg_tail (by kernel_rfl) ?_)
  refine call_rule [.at 3 0] (cm) hG ?_ ?_
  · (refine ⟨?_, ?_, rfl, rfl, rfl⟩ <;> repeat' (first | refine And.intro ?_ ?_ | exact trivial | exact rfl | refine lt0 | refine lt1 ?_ | refine lt2 ?_ ?_ | refine lt3 ?_ ?_ ?_ | refine lt4 ?_ ?_ ?_ ?_ | exact veq_refl _ | decide | (intro i hi; repeat' (first | refine And.intro ?_ ?_ | exact trivial | exact rfl))))
    all_goals first | exact Nat.le_refl _ | omega
  rintro _ _ _ ⟨rfl, rfl, rfl⟩
  repeat' (first | refine And.intro (by first | omega | (dsimp only; omega) | (show (_ : Bool) = true; kernel_rfl) | decide | (repeat' (first | refine And.intro ?_ ?_ | exact trivial | exact rfl))) ?_ | refine bcs_dec (fun h => ?_) (fun h => False.elim (by first | omega | exact h rfl)) | refine bcs_dec (fun h => False.elim (by omega)) (fun h => ?_) | refine bcs_dec (fun h => ?_) (fun h => ?_) | refine bcs_ndec (fun h => ?_) (fun h => ?_) | refine bcs_not ?_ | refine bcs_intro (fun h => ?_) (fun h => ?_) | refine And.intro ?_ ?_ | refine reg_tail (by kernel_rfl) ?_)
  refine call_rule [.at 4 0] (cy) hG ?_ ?_
  · (refine ⟨?_, ?_, rfl, rfl, rfl⟩ <;> repeat' (first | refine And.intro ?_ ?_ | exact trivial | exact rfl | refine lt0 | refine lt1 ?_ | refine lt2 ?_ ?_ | refine lt3 ?_ ?_ ?_ | refine lt4 ?_ ?_ ?_ ?_ | exact veq_refl _ | decide | (intro i hi; repeat' (first | refine And.intro ?_ ?_ | exact trivial | exact rfl))))
    all_goals first | exact Nat.le_refl _ | omega
  rintro _ _ _ ⟨rfl, rfl, rfl⟩
  repeat' (first | refine And.intro (by first | omega | (dsimp only; omega) | (show (_ : Bool) = true; kernel_rfl) | decide | (repeat' (first | refine And.intro ?_ ?_ | exact trivial | exact rfl))) ?_ | refine bcs_dec (fun h => ?_) (fun h => False.elim (by first | omega | exact h rfl)) | refine bcs_dec (fun h => False.elim (by omega)) (fun h => ?_) | refine bcs_dec (fun h => ?_) (fun h => ?_) | refine bcs_ndec (fun h => ?_) (fun h => ?_) | refine bcs_not ?_ | refine bcs_intro (fun h => ?_) (fun h => ?_) | refine And.intro ?_ ?_ | refine reg_tail (by kernel_rfl) ?_)
  refine call_rule [.at 0 0] (cN) hG ?_ ?_
  · (refine ⟨?_, ?_, rfl, rfl, rfl⟩ <;> repeat' (first | refine And.intro ?_ ?_ | exact trivial | exact rfl | refine lt0 | refine lt1 ?_ | refine lt2 ?_ ?_ | refine lt3 ?_ ?_ ?_ | refine lt4 ?_ ?_ ?_ ?_ | exact veq_refl _ | decide | (intro i hi; repeat' (first | refine And.intro ?_ ?_ | exact trivial | exact rfl))))
    all_goals first | exact Nat.le_refl _ | omega
  rintro _ _ _ ⟨rfl, rfl, rfl⟩
  repeat' (first | refine And.intro (by first | omega | (dsimp only; omega) | (show (_ : Bool) = true; kernel_rfl) | decide | (repeat' (first | refine And.intro ?_ ?_ | exact trivial | exact rfl))) ?_ | refine bcs_dec (fun h => ?_) (fun h => False.elim (by first | omega | exact h rfl)) | refine bcs_dec (fun h => False.elim (by omega)) (fun h => ?_) | refine bcs_dec (fun h => ?_) (fun h => ?_) | refine bcs_ndec (fun h => ?_) (fun h => ?_) | refine bcs_not ?_ | refine bcs_intro (fun h => ?_) (fun h => ?_) | refine And.intro ?_ ?_ | refine reg_tail (by kernel_rfl) ?_)
  refine ret_mem [.nil 7] rfl rfl ?_ ?_
  · repeat' (first | refine And.intro ?_ ?_ | exact trivial)
    all_goals exact rfl
  · repeat' (first | refine And.intro ?_ ?_ | exact trivial)
    all_goals exact rfl
set_option maxRecDepth 100000 in
set_option maxHeartbeats 8000000 in
theorem chunks_t (s t : List Chg) (b m y : List Byt) (hb : b.flatten.length ≤ 4194304) (hm : m.flatten.length ≤ 4194304) (hy : y.flatten.length ≤ 4194304) (hbl : b.length ≤ 4194304) (hml : m.length ≤ 4194304) (hyl : y.length ≤ 4194304)
    (vb : validB b = true) (vm : validB m = true) (vy : validB y = true) (hs : s.length ≤ 9223372036854775807) (ht : t.length ≤ 9223372036854775807) (hv : validE s b.length m.length = 0) (hw : validE t b.length y.length ≠ 0) :
    Con Tryd.prog glob 29 [.s 0 0 s.length, .s 1 0 t.length, .s 2 0 b.length, .s 3 0 m.length, .s 4 0 y.length] [(0, chRo s), (1, chRo t), (2, stRo b), (3, stRo m), (4, stRo y)] 5 (retM (.t [.o 5, .v (.iface 67 (.int .i64 (validE t b.length y.length)))]) [(5, ckOwn [])] 6) := by
  have cb := lvalid_con b (by omega) (len_of hb); have cm := lvalid_con m (by omega) (len_of hm); have cy := lvalid_con y (by omega) (len_of hy); rw [vb] at cb; rw [vm] at cm; rw [vy] at cy
  have cN := normal_ok (n := b.length) (m := m.length) hs hv
  have cM := normal_no (n := b.length) (m := y.length) ht hw
  refine spec_intro (tab := tab) (N := 184) Tryd.func29 rfl rfl tab_ok mix rfl rfl _ rfl ?_
  intro B hG
  repeat' (first | refine And.intro (by first | omega | (dsimp only; omega) | (show (_ : Bool) = true; kernel_rfl) | decide | (repeat' (first | refine And.intro ?_ ?_ | exact trivial | exact rfl))) ?_ | refine bcs_dec (fun h => ?_) (fun h => False.elim (by first | omega | exact h rfl)) | refine bcs_dec (fun h => False.elim (by omega)) (fun h => ?_) | refine bcs_dec (fun h => ?_) (fun h => ?_) | refine bcs_ndec (fun h => ?_) (fun h => ?_) | refine bcs_not ?_ | refine bcs_intro (fun h => ?_) (fun h => ?_) | refine And.intro ?_ ?_ | refine reg_tail (by kernel_rfl) ?_)
  refine call_rule [.at 2 0] (cb) hG ?_ ?_
  · (refine ⟨?_, ?_, rfl, rfl, rfl⟩ <;> repeat' (first | refine And.intro ?_ ?_ | exact trivial | exact rfl | refine lt0 | refine lt1 ?_ | refine lt2 ?_ ?_ | refine lt3 ?_ ?_ ?_ | refine lt4 ?_ ?_ ?_ ?_ | exact veq_refl _ | decide | (intro i hi; repeat' (first | refine And.intro ?_ ?_ | exact trivial | exact rfl))))
    all_goals first | exact Nat.le_refl _ | omega
  rintro _ _ _ ⟨rfl, rfl, rfl⟩
  repeat' (first | refine And.intro (by first | omega | (dsimp only; omega) | (show (_ : Bool) = true; kernel_rfl) | decide | (repeat' (first | refine And.intro ?_ ?_ | exact trivial | exact rfl))) ?_ | refine bcs_dec (fun h => ?_) (fun h => False.elim (by first | omega | exact h rfl)) | refine bcs_dec (fun h => False.elim (by omega)) (fun h => ?_) | refine bcs_dec (fun h => ?_) (fun h => ?_) | refine bcs_ndec (fun h => ?_) (fun h => ?_) | refine bcs_not ?_ | refine bcs_intro (fun h => ?_) (fun h => ?_) | refine And.intro ?_ ?_ | refine reg_tail (by kernel_rfl) ?_)
  refine call_rule [.at 3 0] (cm) hG ?_ ?_
  · (refine ⟨?_, ?_, rfl, rfl, rfl⟩ <;> repeat' (first | refine And.intro ?_ ?_ | exact trivial | exact rfl | refine lt0 | refine lt1 ?_ | refine lt2 ?_ ?_ | refine lt3 ?_ ?_ ?_ | refine lt4 ?_ ?_ ?_ ?_ | exact veq_refl _ | decide | (intro i hi; repeat' (first | refine And.intro ?_ ?_ | exact trivial | exact rfl))))
    all_goals first | exact Nat.le_refl _ | omega
  rintro _ _ _ ⟨rfl, rfl, rfl⟩
  repeat' (first | refine And.intro (by first | omega | (dsimp only; omega) | (show (_ : Bool) = true; kernel_rfl) | decide | (repeat' (first | refine And.intro ?_ ?_ | exact trivial | exact rfl))) ?_ | refine bcs_dec (fun h => ?_) (fun h => False.elim (by first | omega | exact h rfl)) | refine bcs_dec (fun h => False.elim (by omega)) (fun h => ?_) | refine bcs_dec (fun h => ?_) (fun h => ?_) | refine bcs_ndec (fun h => ?_) (fun h => ?_) | refine bcs_not ?_ | refine bcs_intro (fun h => ?_) (fun h => ?_) | refine And.intro ?_ ?_ | refine reg_tail (by kernel_rfl) ?_)
  refine call_rule [.at 4 0] (cy) hG ?_ ?_
  · (refine ⟨?_, ?_, rfl, rfl, rfl⟩ <;> repeat' (first | refine And.intro ?_ ?_ | exact trivial | exact rfl | refine lt0 | refine lt1 ?_ | refine lt2 ?_ ?_ | refine lt3 ?_ ?_ ?_ | refine lt4 ?_ ?_ ?_ ?_ | exact veq_refl _ | decide | (intro i hi; repeat' (first | refine And.intro ?_ ?_ | exact trivial | exact rfl))))
    all_goals first | exact Nat.le_refl _ | omega
  rintro _ _ _ ⟨rfl, rfl, rfl⟩
  repeat' (first | refine And.intro (by first | omega | (dsimp only; omega) | (show (_ : Bool) = true; kernel_rfl) | decide | (repeat' (first | refine And.intro ?_ ?_ | exact trivial | exact rfl))) ?_ | refine bcs_dec (fun h => ?_) (fun h => False.elim (by first | omega | exact h rfl)) | refine bcs_dec (fun h => False.elim (by omega)) (fun h => ?_) | refine bcs_dec (fun h => ?_) (fun h => ?_) | refine bcs_ndec (fun h => ?_) (fun h => ?_) | refine bcs_not ?_ | refine bcs_intro (fun h => ?_) (fun h => ?_) | refine And.intro ?_ ?_ | refine reg_tail (by kernel_rfl) ?_)
  refine call_rule [.at 0 0] (cN) hG ?_ ?_
  · (refine ⟨?_, ?_, rfl, rfl, rfl⟩ <;> repeat' (first | refine And.intro ?_ ?_ | exact trivial | exact rfl | refine lt0 | refine lt1 ?_ | refine lt2 ?_ ?_ | refine lt3 ?_ ?_ ?_ | refine lt4 ?_ ?_ ?_ ?_ | exact veq_refl _ | decide | (intro i hi; repeat' (first | refine And.intro ?_ ?_ | exact trivial | exact rfl))))
    all_goals first | exact Nat.le_refl _ | omega
  rintro _ _ _ ⟨rfl, rfl, rfl⟩
  repeat' (first | refine And.intro (by first | omega | (dsimp only; omega) | (show (_ : Bool) = true; kernel_rfl) | decide | (repeat' (first | refine And.intro ?_ ?_ | exact trivial | exact rfl))) ?_ | refine bcs_dec (fun h => ?_) (fun h => False.elim (by first | omega | exact h rfl)) | refine bcs_dec (fun h => False.elim (by omega)) (fun h => ?_) | refine bcs_dec (fun h => ?_) (fun h => ?_) | refine bcs_ndec (fun h => ?_) (fun h => ?_) | refine bcs_not ?_ | refine bcs_intro (fun h => ?_) (fun h => ?_) | refine And.intro ?_ ?_ | refine reg_tail (by kernel_rfl) ?_)
  refine call_rule [.at 1 0] (cM) hG ?_ ?_
  · (refine ⟨?_, ?_, rfl, rfl, rfl⟩ <;> repeat' (first | refine And.intro ?_ ?_ | exact trivial | exact rfl | refine lt0 | refine lt1 ?_ | refine lt2 ?_ ?_ | refine lt3 ?_ ?_ ?_ | refine lt4 ?_ ?_ ?_ ?_ | exact veq_refl _ | decide | (intro i hi; repeat' (first | refine And.intro ?_ ?_ | exact trivial | exact rfl))))
    all_goals first | exact Nat.le_refl _ | omega
  rintro _ _ _ ⟨rfl, rfl, rfl⟩
  repeat' (first | refine And.intro (by first | omega | (dsimp only; omega) | (show (_ : Bool) = true; kernel_rfl) | decide | (repeat' (first | refine And.intro ?_ ?_ | exact trivial | exact rfl))) ?_ | refine bcs_dec (fun h => ?_) (fun h => False.elim (by first | omega | exact h rfl)) | refine bcs_dec (fun h => False.elim (by omega)) (fun h => ?_) | refine bcs_dec (fun h => ?_) (fun h => ?_) | refine bcs_ndec (fun h => ?_) (fun h => ?_) | refine bcs_not ?_ | refine bcs_intro (fun h => ?_) (fun h => ?_) | refine And.intro ?_ ?_ | refine reg_tail (by kernel_rfl) ?_)
  refine ret_mem [.nil 7] rfl rfl ?_ ?_
  · repeat' (first | refine And.intro ?_ ?_ | exact trivial)
    all_goals exact rfl
  · repeat' (first | refine And.intro ?_ ?_ | exact trivial)
    all_goals exact rfl
end Go.Proofs.YtlmjkphiicmclaaDoor

namespace Go.Proofs.YtlmjkphiicmclaaDoor
open Go Go.RowKit Vc

theorem norm_validE {s : List Chg} {n m : Int} (h : validE s n m = 0) : validE (normF s) n m = 0 := by
  obtain ⟨r1, r2, r3, r4, r5⟩ := valid_range h
  unfold validE
  rw [if_neg (by omega)]
  exact norm_valid r5
set_option maxRecDepth 100000 in
set_option maxHeartbeats 8000000 in
theorem chunks_apply (s t : List Chg) (b m y : List Byt) (hb : b.flatten.length ≤ 4194304) (hm : m.flatten.length ≤ 4194304) (hy : y.flatten.length ≤ 4194304) (hbl : b.length ≤ 4194304) (hml : m.length ≤ 4194304) (hyl : y.length ≤ 4194304)
    (vb : validB b = true) (vm : validB m = true) (vy : validB y = true) (hs : s.length ≤ 4194304) (ht : t.length ≤ 4194304) (hv : validE s b.length m.length = 0) (hw : validE t b.length y.length = 0)
    (h : staysF b m (pairsF (normF s) 0 0 b.length) = false ∨ staysF b y (pairsF (normF t) 0 0 b.length) = false) :
    Con Tryd.prog glob 29 [.s 0 0 s.length, .s 1 0 t.length, .s 2 0 b.length, .s 3 0 m.length, .s 4 0 y.length] [(0, chRo s), (1, chRo t), (2, stRo b), (3, stRo m), (4, stRo y)] 5 (retM (.t [.o 5, .v (.iface 67 (.int .i64 61))]) [(5, ckOwn [])] 6) := by
  have cb := lvalid_con b (by omega) (len_of hb); have cm := lvalid_con m (by omega) (len_of hm); have cy := lvalid_con y (by omega) (len_of hy); rw [vb] at cb; rw [vm] at cm; rw [vy] at cy
  have cN := normal_ok (n := b.length) (m := m.length) (by omega) hv
  have cM := normal_ok (n := b.length) (m := y.length) (by omega) hw
  have l1 : (normF s).length ≤ s.length := by
    have h := mergeF_len s []
    simpa using h
  have l2 : (normF t).length ≤ t.length := by
    have h := mergeF_len t []
    simpa using h
  have cS := stays_con (normF s) b m (by omega) (norm_validE hv)
  have cT := stays_con (normF t) b y (by omega) (norm_validE hw)
  obtain ⟨P, hP⟩ : ∃ P, P = normF s := ⟨_, rfl⟩
  obtain ⟨Q, hQ⟩ : ∃ Q, Q = normF t := ⟨_, rfl⟩
  rw [← hP] at cN cS h l1
  rw [← hQ] at cM cT h l2
  refine spec_intro (tab := tab) (N := 184) Tryd.func29 rfl rfl tab_ok mix rfl rfl _ rfl ?_
  intro B hG
  repeat' (first | refine And.intro (by first | omega | (dsimp only; omega) | (show (_ : Bool) = true; kernel_rfl) | decide | (repeat' (first | refine And.intro ?_ ?_ | exact trivial | exact rfl))) ?_ | refine bcs_dec (fun h => ?_) (fun h => False.elim (by first | omega | exact h rfl)) | refine bcs_dec (fun h => False.elim (by omega)) (fun h => ?_) | refine bcs_dec (fun h => ?_) (fun h => ?_) | refine bcs_ndec (fun h => ?_) (fun h => ?_) | refine bcs_not ?_ | refine bcs_intro (fun h => ?_) (fun h => ?_) | refine And.intro ?_ ?_ | refine reg_tail (by kernel_rfl) ?_)
  refine call_rule [.at 2 0] (cb) hG ?_ ?_
  · (refine ⟨?_, ?_, rfl, rfl, rfl⟩ <;> repeat' (first | refine And.intro ?_ ?_ | exact trivial | exact rfl | refine lt0 | refine lt1 ?_ | refine lt2 ?_ ?_ | refine lt3 ?_ ?_ ?_ | refine lt4 ?_ ?_ ?_ ?_ | exact veq_refl _ | decide | (intro i hi; repeat' (first | refine And.intro ?_ ?_ | exact trivial | exact rfl))))
    all_goals first | exact Nat.le_refl _ | omega
  rintro _ _ _ ⟨rfl, rfl, rfl⟩
  repeat' (first | refine And.intro (by first | omega | (dsimp only; omega) | (show (_ : Bool) = true; kernel_rfl) | decide | (repeat' (first | refine And.intro ?_ ?_ | exact trivial | exact rfl))) ?_ | refine bcs_dec (fun h => ?_) (fun h => False.elim (by first | omega | exact h rfl)) | refine bcs_dec (fun h => False.elim (by omega)) (fun h => ?_) | refine bcs_dec (fun h => ?_) (fun h => ?_) | refine bcs_ndec (fun h => ?_) (fun h => ?_) | refine bcs_not ?_ | refine bcs_intro (fun h => ?_) (fun h => ?_) | refine And.intro ?_ ?_ | refine reg_tail (by kernel_rfl) ?_)
  refine call_rule [.at 3 0] (cm) hG ?_ ?_
  · (refine ⟨?_, ?_, rfl, rfl, rfl⟩ <;> repeat' (first | refine And.intro ?_ ?_ | exact trivial | exact rfl | refine lt0 | refine lt1 ?_ | refine lt2 ?_ ?_ | refine lt3 ?_ ?_ ?_ | refine lt4 ?_ ?_ ?_ ?_ | exact veq_refl _ | decide | (intro i hi; repeat' (first | refine And.intro ?_ ?_ | exact trivial | exact rfl))))
    all_goals first | exact Nat.le_refl _ | omega
  rintro _ _ _ ⟨rfl, rfl, rfl⟩
  repeat' (first | refine And.intro (by first | omega | (dsimp only; omega) | (show (_ : Bool) = true; kernel_rfl) | decide | (repeat' (first | refine And.intro ?_ ?_ | exact trivial | exact rfl))) ?_ | refine bcs_dec (fun h => ?_) (fun h => False.elim (by first | omega | exact h rfl)) | refine bcs_dec (fun h => False.elim (by omega)) (fun h => ?_) | refine bcs_dec (fun h => ?_) (fun h => ?_) | refine bcs_ndec (fun h => ?_) (fun h => ?_) | refine bcs_not ?_ | refine bcs_intro (fun h => ?_) (fun h => ?_) | refine And.intro ?_ ?_ | refine reg_tail (by kernel_rfl) ?_)
  refine call_rule [.at 4 0] (cy) hG ?_ ?_
  · (refine ⟨?_, ?_, rfl, rfl, rfl⟩ <;> repeat' (first | refine And.intro ?_ ?_ | exact trivial | exact rfl | refine lt0 | refine lt1 ?_ | refine lt2 ?_ ?_ | refine lt3 ?_ ?_ ?_ | refine lt4 ?_ ?_ ?_ ?_ | exact veq_refl _ | decide | (intro i hi; repeat' (first | refine And.intro ?_ ?_ | exact trivial | exact rfl))))
    all_goals first | exact Nat.le_refl _ | omega
  rintro _ _ _ ⟨rfl, rfl, rfl⟩
  repeat' (first | refine And.intro (by first | omega | (dsimp only; omega) | (show (_ : Bool) = true; kernel_rfl) | decide | (repeat' (first | refine And.intro ?_ ?_ | exact trivial | exact rfl))) ?_ | refine bcs_dec (fun h => ?_) (fun h => False.elim (by first | omega | exact h rfl)) | refine bcs_dec (fun h => False.elim (by omega)) (fun h => ?_) | refine bcs_dec (fun h => ?_) (fun h => ?_) | refine bcs_ndec (fun h => ?_) (fun h => ?_) | refine bcs_not ?_ | refine bcs_intro (fun h => ?_) (fun h => ?_) | refine And.intro ?_ ?_ | refine reg_tail (by kernel_rfl) ?_)
  refine call_rule [.at 0 0] (cN) hG ?_ ?_
  · (refine ⟨?_, ?_, rfl, rfl, rfl⟩ <;> repeat' (first | refine And.intro ?_ ?_ | exact trivial | exact rfl | refine lt0 | refine lt1 ?_ | refine lt2 ?_ ?_ | refine lt3 ?_ ?_ ?_ | refine lt4 ?_ ?_ ?_ ?_ | exact veq_refl _ | decide | (intro i hi; repeat' (first | refine And.intro ?_ ?_ | exact trivial | exact rfl))))
    all_goals first | exact Nat.le_refl _ | omega
  rintro _ _ _ ⟨rfl, rfl, rfl⟩
  repeat' (first | refine And.intro (by first | omega | (dsimp only; omega) | (show (_ : Bool) = true; kernel_rfl) | decide | (repeat' (first | refine And.intro ?_ ?_ | exact trivial | exact rfl))) ?_ | refine bcs_dec (fun h => ?_) (fun h => False.elim (by first | omega | exact h rfl)) | refine bcs_dec (fun h => False.elim (by omega)) (fun h => ?_) | refine bcs_dec (fun h => ?_) (fun h => ?_) | refine bcs_ndec (fun h => ?_) (fun h => ?_) | refine bcs_not ?_ | refine bcs_intro (fun h => ?_) (fun h => ?_) | refine And.intro ?_ ?_ | refine reg_tail (by kernel_rfl) ?_)
  refine call_rule [.at 1 0] (cM) hG ?_ ?_
  · (refine ⟨?_, ?_, rfl, rfl, rfl⟩ <;> repeat' (first | refine And.intro ?_ ?_ | exact trivial | exact rfl | refine lt0 | refine lt1 ?_ | refine lt2 ?_ ?_ | refine lt3 ?_ ?_ ?_ | refine lt4 ?_ ?_ ?_ ?_ | exact veq_refl _ | decide | (intro i hi; repeat' (first | refine And.intro ?_ ?_ | exact trivial | exact rfl))))
    all_goals first | exact Nat.le_refl _ | omega
  rintro _ _ _ ⟨rfl, rfl, rfl⟩
  repeat' (first | refine And.intro (by first | omega | (dsimp only; omega) | (show (_ : Bool) = true; kernel_rfl) | decide | (repeat' (first | refine And.intro ?_ ?_ | exact trivial | exact rfl))) ?_ | refine bcs_dec (fun h => ?_) (fun h => False.elim (by first | omega | exact h rfl)) | refine bcs_dec (fun h => False.elim (by omega)) (fun h => ?_) | refine bcs_dec (fun h => ?_) (fun h => ?_) | refine bcs_ndec (fun h => ?_) (fun h => ?_) | refine bcs_not ?_ | refine bcs_intro (fun h => ?_) (fun h => ?_) | refine And.intro ?_ ?_ | refine reg_tail (by kernel_rfl) ?_)
  cases h1 : staysF b m (pairsF P 0 0 b.length) with
  | false =>
    rw [h1] at cS
    refine call_rule [.at 5 0, .at 2 0, .at 3 0] (cS) hG ?_ ?_
    · (refine ⟨?_, ?_, rfl, rfl, rfl⟩ <;> repeat' (first | refine And.intro ?_ ?_ | exact trivial | exact rfl | refine lt0 | refine lt1 ?_ | refine lt2 ?_ ?_ | refine lt3 ?_ ?_ ?_ | refine lt4 ?_ ?_ ?_ ?_ | exact veq_refl _ | decide | (intro i hi; repeat' (first | refine And.intro ?_ ?_ | exact trivial | exact rfl))))
      all_goals first | exact Nat.le_refl _ | omega
    rintro _ _ _ ⟨rfl, rfl, rfl⟩
    repeat' (first | refine And.intro (by first | omega | (dsimp only; omega) | (show (_ : Bool) = true; kernel_rfl) | decide | (repeat' (first | refine And.intro ?_ ?_ | exact trivial | exact rfl))) ?_ | refine bcs_dec (fun h => ?_) (fun h => False.elim (by first | omega | exact h rfl)) | refine bcs_dec (fun h => False.elim (by omega)) (fun h => ?_) | refine bcs_dec (fun h => ?_) (fun h => ?_) | refine bcs_ndec (fun h => ?_) (fun h => ?_) | refine bcs_not ?_ | refine bcs_intro (fun h => ?_) (fun h => ?_) | refine And.intro ?_ ?_ | refine reg_tail (by kernel_rfl) ?_)
    refine ret_mem [.nil 7] rfl rfl ?_ ?_
    · repeat' (first | refine And.intro ?_ ?_ | exact trivial)
      all_goals exact rfl
    · repeat' (first | refine And.intro ?_ ?_ | exact trivial)
      all_goals exact rfl
  | true =>
    have h2 : staysF b y (pairsF Q 0 0 b.length) = false := by
      rcases h with h | h
      · rw [h1] at h; cases h
      · exact h
    rw [h1] at cS
    rw [h2] at cT
    refine call_rule [.at 5 0, .at 2 0, .at 3 0] (cS) hG ?_ ?_
    · (refine ⟨?_, ?_, rfl, rfl, rfl⟩ <;> repeat' (first | refine And.intro ?_ ?_ | exact trivial | exact rfl | refine lt0 | refine lt1 ?_ | refine lt2 ?_ ?_ | refine lt3 ?_ ?_ ?_ | refine lt4 ?_ ?_ ?_ ?_ | exact veq_refl _ | decide | (intro i hi; repeat' (first | refine And.intro ?_ ?_ | exact trivial | exact rfl))))
      all_goals first | exact Nat.le_refl _ | omega
    rintro _ _ _ ⟨rfl, rfl, rfl⟩
    repeat' (first | refine And.intro (by first | omega | (dsimp only; omega) | (show (_ : Bool) = true; kernel_rfl) | decide | (repeat' (first | refine And.intro ?_ ?_ | exact trivial | exact rfl))) ?_ | refine bcs_dec (fun h => ?_) (fun h => False.elim (by first | omega | exact h rfl)) | refine bcs_dec (fun h => False.elim (by omega)) (fun h => ?_) | refine bcs_dec (fun h => ?_) (fun h => ?_) | refine bcs_ndec (fun h => ?_) (fun h => ?_) | refine bcs_not ?_ | refine bcs_intro (fun h => ?_) (fun h => ?_) | refine And.intro ?_ ?_ | refine reg_tail (by kernel_rfl) ?_)
    refine call_rule [.at 6 0, .at 2 0, .at 4 0] (cT) hG ?_ ?_
    · (refine ⟨?_, ?_, rfl, rfl, rfl⟩ <;> repeat' (first | refine And.intro ?_ ?_ | exact trivial | exact rfl | refine lt0 | refine lt1 ?_ | refine lt2 ?_ ?_ | refine lt3 ?_ ?_ ?_ | refine lt4 ?_ ?_ ?_ ?_ | exact veq_refl _ | decide | (intro i hi; repeat' (first | refine And.intro ?_ ?_ | exact trivial | exact rfl))))
      all_goals first | exact Nat.le_refl _ | omega
    rintro _ _ _ ⟨rfl, rfl, rfl⟩
    repeat' (first | refine And.intro (by first | omega | (dsimp only; omega) | (show (_ : Bool) = true; kernel_rfl) | decide | (repeat' (first | refine And.intro ?_ ?_ | exact trivial | exact rfl))) ?_ | refine bcs_dec (fun h => ?_) (fun h => False.elim (by first | omega | exact h rfl)) | refine bcs_dec (fun h => False.elim (by omega)) (fun h => ?_) | refine bcs_dec (fun h => ?_) (fun h => ?_) | refine bcs_ndec (fun h => ?_) (fun h => ?_) | refine bcs_not ?_ | refine bcs_intro (fun h => ?_) (fun h => ?_) | refine And.intro ?_ ?_ | refine reg_tail (by kernel_rfl) ?_)
    refine ret_mem [.nil 7] rfl rfl ?_ ?_
    · repeat' (first | refine And.intro ?_ ?_ | exact trivial)
      all_goals exact rfl
    · repeat' (first | refine And.intro ?_ ?_ | exact trivial)
      all_goals exact rfl
end Go.Proofs.YtlmjkphiicmclaaDoor
