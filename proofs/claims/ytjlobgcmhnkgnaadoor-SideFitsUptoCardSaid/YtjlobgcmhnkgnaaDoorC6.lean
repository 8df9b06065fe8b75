/- Chapter 15: both columns: what is told; the lines that stay, walked. Printed by gen_c6.py. -/
import Derived.Test.YtjlobgcmhnkgnaaDoorC4
import Derived.Test.YtjlobgcmhnkgnaaDoorQ1
namespace Go.Proofs.YtjlobgcmhnkgnaaDoor
open Go Go.RowKit Vc

/-- So many lines that stay, from (x, y). -/
def alkF (a b : List Byt) (hf s : Int) : Nat → Int → Int → Byt
  | 0, _, _ => []
  | n + 1, x, y => rowF (a.getD x.toNat []) (besideF (a.getD x.toNat []) (b.getD y.toNat [])) (b.getD y.toNat []) hf s ++ alkF a b hf s n (x + 1) (y + 1)
/-- The lines of one change, from number i on. -/
def blkF (a b : List Byt) (hf s : Int) (c : Chg) : Nat → Int → Byt
  | 0, _ => []
  | n + 1, i => (if i ≥ c.M then rowF (a.getD (c.A + i).toNat []) 60 [] hf s else if i ≥ c.N then rowF [] 62 (b.getD (c.B + i).toNat []) hf s
      else rowF (a.getD (c.A + i).toNat []) (besideF (a.getD (c.A + i).toNat []) (b.getD (c.B + i).toNat [])) (b.getD (c.B + i).toNat []) hf s) ++ blkF a b hf s c n (i + 1)
def prF (a b : List Byt) (hf s : Int) : List Chg → Int → Int → Byt
  | [], x, y => alkF a b hf s ((a.length : Int) - x).toNat x y
  | c :: r, x, y => alkF a b hf s (c.A - x).toNat x y ++ (blkF a b hf s c (max c.N c.M).toNat 0 ++ prF a b hf s r (c.A + c.N) (c.B + c.M))
theorem row_ne (old : Byt) (mk : UInt8) (fresh : Byt) (hf s : Int) : rowF old mk fresh hf s ≠ [] := by
  unfold rowF
  split <;> simp
theorem row_len (old : Byt) (mk : UInt8) (fresh : Byt) {hf s : Int} (h1 : 2 ≤ hf) (h2 : hf ≤ 4096) : (rowF old mk fresh hf s).length ≤ 8200 := by
  have l1 := cutF_le old 0 hf
  have l2 := cutF_le fresh s hf
  unfold rowF
  split
  · simp; omega
  · split <;> (simp; omega)
theorem alk_len (a b : List Byt) {hf s : Int} (h1 : 2 ≤ hf) (h2 : hf ≤ 4096) : ∀ (n : Nat) (x y : Int), (alkF a b hf s n x y).length ≤ 8200 * n
  | 0, _, _ => by simp [alkF]
  | n + 1, x, y => by
    have := row_len (a.getD x.toNat []) (besideF (a.getD x.toNat []) (b.getD y.toNat [])) (b.getD y.toNat []) (s := s) h1 h2
    have ih := alk_len a b (s := s) h1 h2 n (x + 1) (y + 1)
    simp only [alkF, List.length_append]
    omega
theorem blk_len (a b : List Byt) {hf s : Int} (c : Chg) (h1 : 2 ≤ hf) (h2 : hf ≤ 4096) : ∀ (n : Nat) (i : Int), (blkF a b hf s c n i).length ≤ 8200 * n
  | 0, _ => by simp [blkF]
  | n + 1, i => by
    have ih := blk_len a b (s := s) c h1 h2 n (i + 1)
    simp only [blkF, List.length_append]
    have : (if i ≥ c.M then rowF (a.getD (c.A + i).toNat []) 60 [] hf s else if i ≥ c.N then rowF [] 62 (b.getD (c.B + i).toNat []) hf s
      else rowF (a.getD (c.A + i).toNat []) (besideF (a.getD (c.A + i).toNat []) (b.getD (c.B + i).toNat [])) (b.getD (c.B + i).toNat []) hf s).length ≤ 8200 := by
      split
      · exact row_len _ _ _ h1 h2
      · split
        · exact row_len _ _ _ h1 h2
        · exact row_len _ _ _ h1 h2
    omega

abbrev pOut : Option Byt → Byt
  | none => []
  | some out => out
/-- Where the lines stand while they are told, the page fresh or written. -/
def aSt (a b : List Byt) (hf s tw x y : Int) : Option Byt → St
  | none => ⟨[(0, .v (.int .i64 tw)), (1, .p 0 0 0), (2, .p 1 0 0), (3, .p 2 0 0), (4, .p 3 0 0), (5, .p 4 0 0)], [(0, .box 3 [.v (.int .i64 x)]), (1, .box 3 [.v (.int .i64 y)]), (2, .box 72 [.p 5 0 0]), (3, .box 23 [.s 6 0 a.length]), (4, .box 23 [.s 7 0 b.length]), (5, .box 74 [.v (.pointer none), .v (.slice none 0 0), .v (.int .i64 hf), .v (.int .i64 s)]), (6, stRo a), (7, stRo b)], 8⟩
  | some out => ⟨[(0, .v (.int .i64 tw)), (1, .p 0 0 0), (2, .p 1 0 0), (3, .p 2 0 0), (4, .p 3 0 0), (5, .p 4 0 0)], [(0, .box 3 [.v (.int .i64 x)]), (1, .box 3 [.v (.int .i64 y)]), (2, .box 72 [.p 5 0 0]), (3, .box 23 [.s 6 0 a.length]), (4, .box 23 [.s 7 0 b.length]), (5, .box 74 [.p 5 0 0, .o 8, .v (.int .i64 hf), .v (.int .i64 s)]), (6, stRo a), (7, stRo b), (8, byOwn out)], 9⟩
/-- .. where the caller's page is written already: its row is given up, a new one is made. -/
def uSt (a b : List Byt) (hf s tw x y : Int) (out : Byt) : St := ⟨[(0, .v (.int .i64 tw)), (1, .p 0 0 0), (2, .p 1 0 0), (3, .p 2 0 0), (4, .p 3 0 0), (5, .p 4 0 0)], [(0, .box 3 [.v (.int .i64 x)]), (1, .box 3 [.v (.int .i64 y)]), (2, .box 72 [.p 5 0 0]), (3, .box 23 [.s 6 0 a.length]), (4, .box 23 [.s 7 0 b.length]), (5, .box 74 [.p 5 0 0, .o 9, .v (.int .i64 hf), .v (.int .i64 s)]), (6, stRo a), (7, stRo b), (9, byOwn out)], 10⟩
set_option maxRecDepth 100000 in
set_option maxHeartbeats 4000000 in
theorem alkF0_con (a b : List Byt) (hf s tw x y : Int) (hx : ¬ x < tw) : Con Tryd.prog glob 36 [.v (.int .i64 tw), .p 0 0 0, .p 1 0 0, .p 2 0 0, .p 3 0 0, .p 4 0 0] [(0, .box 3 [.v (.int .i64 x)]), (1, .box 3 [.v (.int .i64 y)]), (2, .box 72 [.p 5 0 0]), (3, .box 23 [.s 6 0 a.length]), (4, .box 23 [.s 7 0 b.length]), (5, .box 74 [.v (.pointer none), .v (.slice none 0 0), .v (.int .i64 hf), .v (.int .i64 s)]), (6, stRo a), (7, stRo b)] 8 (retM (.t []) [(0, .box 3 [.v (.int .i64 x)]), (1, .box 3 [.v (.int .i64 y)]), (2, .box 72 [.p 5 0 0]), (3, .box 23 [.s 6 0 a.length]), (4, .box 23 [.s 7 0 b.length]), (5, .box 74 [.v (.pointer none), .v (.slice none 0 0), .v (.int .i64 hf), .v (.int .i64 s)]), (6, stRo a), (7, stRo b)] 8) := by
  refine spec_intro (tab := tab) (N := 33) Tryd.func36 rfl rfl tab_ok mix rfl rfl _ rfl ?_
  intro B hG
  repeat' (first | refine And.intro (by first | omega | (dsimp only; omega) | (show (_ : Bool) = true; kernel_rfl) | decide | (repeat' (first | refine And.intro ?_ ?_ | exact trivial | exact rfl))) ?_ | refine bcs_dec (fun h => ?_) (fun h => False.elim (by first | omega | exact h rfl)) | refine bcs_dec (fun h => False.elim (by omega)) (fun h => ?_) | refine bcs_dec (fun h => ?_) (fun h => ?_) | refine bcs_ndec (fun h => ?_) (fun h => ?_) | refine bcs_not ?_ | refine bcs_intro (fun h => ?_) (fun h => ?_) | refine And.intro ?_ ?_ | refine reg_tail (by kernel_rfl) ?_)
  refine loop_rule (α := Unit) (fun _ => aSt a b hf s tw x y none) (fun _ => True) (fun _ => 0) () [] ?_ ?_ ?_
  · trivial
  · (refine ⟨rfl, rfl, ?_, ?_⟩ <;> repeat' (first | refine And.intro ?_ ?_ | exact trivial | exact rfl | refine lt0 | refine lt1 ?_ | refine lt2 ?_ ?_ | refine lt3 ?_ ?_ ?_ | refine lt4 ?_ ?_ ?_ ?_ | exact veq_refl _ | decide | (intro i hi; repeat' (first | refine And.intro ?_ ?_ | exact trivial | exact rfl))))
    all_goals first | exact Nat.le_refl _ | omega
  rintro _ _
  repeat' (first | refine And.intro (by first | omega | (dsimp only; omega) | (show (_ : Bool) = true; kernel_rfl) | decide | (repeat' (first | refine And.intro ?_ ?_ | exact trivial | exact rfl))) ?_ | refine bcs_dec (fun h => ?_) (fun h => False.elim (by first | omega | exact h rfl)) | refine bcs_dec (fun h => False.elim (by omega)) (fun h => ?_) | refine bcs_dec (fun h => ?_) (fun h => ?_) | refine bcs_ndec (fun h => ?_) (fun h => ?_) | refine bcs_not ?_ | refine bcs_intro (fun h => ?_) (fun h => ?_) | refine And.intro ?_ ?_ | refine reg_tail (by kernel_rfl) ?_)
  refine ret_mem [] rfl rfl ?_ ?_
  · first | exact rfl | exact trivial
  · repeat' (first | refine And.intro ?_ ?_ | exact trivial)
    all_goals first | exact rfl | exact veq_refl _ | (show _ + 0 ≤ _; omega) | (intro i hi; exact ⟨rfl, trivial⟩) | skip
set_option maxRecDepth 100000 in
set_option maxHeartbeats 16000000 in
theorem alkF1_con (a b : List Byt) (hf s tw x y : Int) (ha : a.flatten.length ≤ 4194304) (hb : b.flatten.length ≤ 4194304) (hal : a.length ≤ 4194304) (hbl : b.length ≤ 4194304) (hh1 : 2 ≤ hf) (hh2 : hf ≤ 4096) (hs1 : 0 ≤ s) (hs2 : s ≤ 8192)
    (hx0 : 0 ≤ x) (hy0 : 0 ≤ y) (hx : x < tw) (hto : tw ≤ a.length) (hyb : y + (tw - x) ≤ b.length) :
    Con Tryd.prog glob 36 [.v (.int .i64 tw), .p 0 0 0, .p 1 0 0, .p 2 0 0, .p 3 0 0, .p 4 0 0] [(0, .box 3 [.v (.int .i64 x)]), (1, .box 3 [.v (.int .i64 y)]), (2, .box 72 [.p 5 0 0]), (3, .box 23 [.s 6 0 a.length]), (4, .box 23 [.s 7 0 b.length]), (5, .box 74 [.v (.pointer none), .v (.slice none 0 0), .v (.int .i64 hf), .v (.int .i64 s)]), (6, stRo a), (7, stRo b)] 8
      (retM (.t []) [(0, .box 3 [.v (.int .i64 tw)]), (1, .box 3 [.v (.int .i64 (y + (tw - x)))]), (2, .box 72 [.p 5 0 0]), (3, .box 23 [.s 6 0 a.length]), (4, .box 23 [.s 7 0 b.length]), (5, .box 74 [.p 5 0 0, .o 8, .v (.int .i64 hf), .v (.int .i64 s)]), (6, stRo a), (7, stRo b), (8, byOwn (alkF a b hf s (tw - x).toNat x y))] 9) := by
  obtain ⟨T, hT⟩ : ∃ T, T = alkF a b hf s (tw - x).toNat x y := ⟨_, rfl⟩
  rw [← hT]
  refine spec_intro (tab := tab) (N := 33) Tryd.func36 rfl rfl tab_ok mix rfl rfl _ rfl ?_
  intro B hG
  repeat' (first | refine And.intro (by first | omega | (dsimp only; omega) | (show (_ : Bool) = true; kernel_rfl) | decide | (repeat' (first | refine And.intro ?_ ?_ | exact trivial | exact rfl))) ?_ | refine bcs_dec (fun h => ?_) (fun h => False.elim (by first | omega | exact h rfl)) | refine bcs_dec (fun h => False.elim (by omega)) (fun h => ?_) | refine bcs_dec (fun h => ?_) (fun h => ?_) | refine bcs_ndec (fun h => ?_) (fun h => ?_) | refine bcs_not ?_ | refine bcs_intro (fun h => ?_) (fun h => ?_) | refine And.intro ?_ ?_ | refine reg_tail (by kernel_rfl) ?_)
  refine loop_rule (α := Int × Int × Option Byt) (fun (u, v, o) => aSt a b hf s tw u v o)
    (fun (u, v, o) => x ≤ u ∧ u ≤ tw ∧ v - y = u - x ∧ (o = none → u < tw) ∧ (pOut o).length + 8200 * (tw - u).toNat ≤ 140737488000000 ∧ pOut o ++ alkF a b hf s (tw - u).toNat u v = T) (fun (u, _) => (tw - u).toNat) (x, y, none) [] ?_ ?_ ?_
  · exact ⟨by omega, by omega, by omega, fun _ => hx, by show 0 + _ ≤ _; omega, hT.symm⟩
  · (refine ⟨rfl, rfl, ?_, ?_⟩ <;> repeat' (first | refine And.intro ?_ ?_ | exact trivial | exact rfl | refine lt0 | refine lt1 ?_ | refine lt2 ?_ ?_ | refine lt3 ?_ ?_ ?_ | refine lt4 ?_ ?_ ?_ ?_ | exact veq_refl _ | decide | (intro i hi; repeat' (first | refine And.intro ?_ ?_ | exact trivial | exact rfl))))
    all_goals first | exact Nat.le_refl _ | omega | skip
  rintro ⟨u, v, o⟩ ⟨g1, g2, g3, g4, g5, g6⟩
  cases o with
  | none =>
    have hu := g4 rfl
    simp only [pOut, List.nil_append, List.length_nil] at g5 g6
    have hst : (tw - u).toNat = (tw - (u + 1)).toNat + 1 := by omega
    rw [hst] at g6
    simp only [alkF] at g6
    have ea : a.getD u.toNat [] = a.getD (0 + u.toNat) [] := by rw [Nat.zero_add]
    have eb : b.getD v.toNat [] = b.getD (0 + v.toNat) [] := by rw [Nat.zero_add]
    rw [ea, eb] at g6
    have la := getD_flat a (0 + u.toNat)
    have lb := getD_flat b (0 + v.toNat)
    have cb := beside_con (a.getD (0 + u.toNat) []) (b.getD (0 + v.toNat) []) (by omega) (by omega)
    have cr := rowPF_con (a.getD (0 + u.toNat) []) (b.getD (0 + v.toNat) []) (besideF (a.getD (0 + u.toNat) []) (b.getD (0 + v.toNat) [])) hf s (by omega) (by omega) hh1 hh2 hs1 hs2
    have lr := row_len (a.getD (0 + u.toNat) []) (besideF (a.getD (0 + u.toNat) []) (b.getD (0 + v.toNat) [])) (b.getD (0 + v.toNat) []) (s := s) hh1 hh2
    obtain ⟨X, hX⟩ : ∃ X, X = rowF (a.getD (0 + u.toNat) []) (besideF (a.getD (0 + u.toNat) []) (b.getD (0 + v.toNat) [])) (b.getD (0 + v.toNat) []) hf s := ⟨_, rfl⟩
    rw [← hX] at g6 cr lr
    repeat' (first | refine Both.mk ?_ ?_ | refine And.intro (by first | omega | (dsimp only; omega) | (show (_ : Bool) = true; kernel_rfl) | decide | (repeat' (first | refine And.intro ?_ ?_ | exact trivial | exact rfl))) ?_ | refine bcs_dec (fun h => ?_) (fun h => False.elim (by first | omega | exact h rfl)) | refine bcs_dec (fun h => False.elim (by omega)) (fun h => ?_) | refine bcs_dec (fun h => ?_) (fun h => ?_) | refine bcs_ndec (fun h => ?_) (fun h => ?_) | refine bcs_not ?_ | refine And.intro ?_ ?_)
    refine reg_ord [0, 1, 2, 3, 4] (.early 0 (.early 1 (.early 2 (.early 3 (.early 4 (.early 5 (.early 6 (.early 7 (.early 8 (.early 9 (.early 10 (.early 11 (.early 12 (.early 14 (.early 15 (.early 16 (.early 17 (.late 13 (.late 18 .nil))))))))))))))))))) (by decide +kernel) rfl ?_
    intro B' hB'
    have hG' := hG
    have hG := hB'.trans hG
    repeat' (first | refine Both.mk ?_ ?_ | refine And.intro (by first | omega | (dsimp only; omega) | (show (_ : Bool) = true; kernel_rfl) | decide | (repeat' (first | refine And.intro ?_ ?_ | exact trivial | exact rfl))) ?_ | refine bcs_dec (fun h => ?_) (fun h => False.elim (by first | omega | exact h rfl)) | refine bcs_dec (fun h => False.elim (by omega)) (fun h => ?_) | refine bcs_dec (fun h => ?_) (fun h => ?_) | refine bcs_ndec (fun h => ?_) (fun h => ?_) | refine bcs_not ?_ | refine And.intro ?_ ?_)
    refine call_rule [] (cb) hG ?_ ?_
    · (refine ⟨?_, ?_, rfl, rfl, rfl⟩ <;> repeat' (first | refine And.intro ?_ ?_ | exact trivial | exact rfl | refine lt0 | refine lt1 ?_ | refine lt2 ?_ ?_ | refine lt3 ?_ ?_ ?_ | refine lt4 ?_ ?_ ?_ ?_ | exact veq_refl _ | decide | (intro i hi; repeat' (first | refine And.intro ?_ ?_ | exact trivial | exact rfl))))
      all_goals first | exact Nat.le_refl _ | omega
    rintro _ _ _ ⟨rfl, rfl, rfl⟩
    repeat' (first | refine Both.mk ?_ ?_ | refine And.intro (by first | omega | (dsimp only; omega) | (show (_ : Bool) = true; kernel_rfl) | decide | (repeat' (first | refine And.intro ?_ ?_ | exact trivial | exact rfl))) ?_ | refine bcs_dec (fun h => ?_) (fun h => False.elim (by first | omega | exact h rfl)) | refine bcs_dec (fun h => False.elim (by omega)) (fun h => ?_) | refine bcs_dec (fun h => ?_) (fun h => ?_) | refine bcs_ndec (fun h => ?_) (fun h => ?_) | refine bcs_not ?_ | refine And.intro ?_ ?_)
    refine call_rule [.at 5 0] (cr) hG ?_ ?_
    · (refine ⟨?_, ?_, rfl, rfl, rfl⟩ <;> repeat' (first | refine And.intro ?_ ?_ | exact trivial | exact rfl | refine lt0 | refine lt1 ?_ | refine lt2 ?_ ?_ | refine lt3 ?_ ?_ ?_ | refine lt4 ?_ ?_ ?_ ?_ | exact veq_refl _ | decide | (intro i hi; repeat' (first | refine And.intro ?_ ?_ | exact trivial | exact rfl))))
      all_goals first | exact Nat.le_refl _ | omega
    rintro _ _ _ ⟨rfl, rfl, rfl⟩
    repeat' (first | refine Both.mk ?_ ?_ | refine And.intro (by first | omega | (dsimp only; omega) | (show (_ : Bool) = true; kernel_rfl) | decide | (repeat' (first | refine And.intro ?_ ?_ | exact trivial | exact rfl))) ?_ | refine bcs_dec (fun h => ?_) (fun h => False.elim (by first | omega | exact h rfl)) | refine bcs_dec (fun h => False.elim (by omega)) (fun h => ?_) | refine bcs_dec (fun h => ?_) (fun h => ?_) | refine bcs_ndec (fun h => ?_) (fun h => ?_) | refine bcs_not ?_ | refine And.intro ?_ ?_)
    have hG := hG'
    refine reg_ord [] (.fork 0 (.early 1 (.fork 2 (.early 3 (.late 4 (.late 5 .nil))) 4 (.late 2 (.late 3 (.late 5 .nil))))) 2 (.early 3 (.late 0 (.late 1 (.late 4 (.late 5 .nil)))))) (by decide +kernel) rfl ?_
    intro B'' hB''
    repeat' (first | refine Both.mk ?_ ?_ | refine And.intro (by first | omega | (dsimp only; omega) | (show (_ : Bool) = true; kernel_rfl) | decide | (repeat' (first | refine And.intro ?_ ?_ | exact trivial | exact rfl))) ?_ | refine bcs_dec (fun h => ?_) (fun h => False.elim (by first | omega | exact h rfl)) | refine bcs_dec (fun h => False.elim (by omega)) (fun h => ?_) | refine bcs_dec (fun h => ?_) (fun h => ?_) | refine bcs_ndec (fun h => ?_) (fun h => ?_) | refine bcs_not ?_ | refine And.intro ?_ ?_)
    all_goals
      refine ⟨(u + 1, v + 1, some X), [.at 8 0], ?_, ?_, ?_⟩
      · refine ⟨by omega, by omega, by omega, (fun hf => by cases hf), ?_, ?_⟩
        · show (X).length + 8200 * (tw - (u + 1)).toNat ≤ 140737488000000
          skip
          omega
        · show X ++ alkF a b hf s (tw - (u + 1)).toNat (u + 1) (v + 1) = T
          rw [← g6]
          skip
      · show (tw - (u + 1)).toNat < (tw - u).toNat
        omega
      · (refine ⟨rfl, rfl, ?_, ?_⟩ <;> repeat' (first | refine And.intro ?_ ?_ | exact trivial | exact rfl | refine lt0 | refine lt1 ?_ | refine lt2 ?_ ?_ | refine lt3 ?_ ?_ ?_ | refine lt4 ?_ ?_ ?_ ?_ | exact veq_refl _ | decide | (intro i hi; repeat' (first | refine And.intro ?_ ?_ | exact trivial | exact rfl))))
        all_goals first | exact Nat.le_refl _ | omega | exact veq_refl _ | (simp; done) | skip
  | some o =>
    simp only [pOut] at g5 g6
    by_cases hu : u < tw
    · skip
      have hst : (tw - u).toNat = (tw - (u + 1)).toNat + 1 := by omega
      rw [hst] at g6
      simp only [alkF] at g6
      have ea : a.getD u.toNat [] = a.getD (0 + u.toNat) [] := by rw [Nat.zero_add]
      have eb : b.getD v.toNat [] = b.getD (0 + v.toNat) [] := by rw [Nat.zero_add]
      rw [ea, eb] at g6
      have la := getD_flat a (0 + u.toNat)
      have lb := getD_flat b (0 + v.toNat)
      have cb := beside_con (a.getD (0 + u.toNat) []) (b.getD (0 + v.toNat) []) (by omega) (by omega)
      have cr := rowPU_con (a.getD (0 + u.toNat) []) (b.getD (0 + v.toNat) []) (besideF (a.getD (0 + u.toNat) []) (b.getD (0 + v.toNat) [])) hf s o (by omega) (by omega) (by omega) hh1 hh2 hs1 hs2
      have lr := row_len (a.getD (0 + u.toNat) []) (besideF (a.getD (0 + u.toNat) []) (b.getD (0 + v.toNat) [])) (b.getD (0 + v.toNat) []) (s := s) hh1 hh2
      obtain ⟨X, hX⟩ : ∃ X, X = rowF (a.getD (0 + u.toNat) []) (besideF (a.getD (0 + u.toNat) []) (b.getD (0 + v.toNat) [])) (b.getD (0 + v.toNat) []) hf s := ⟨_, rfl⟩
      rw [← hX] at g6 cr lr
      repeat' (first | refine Both.mk ?_ ?_ | refine And.intro (by first | omega | (dsimp only; omega) | (show (_ : Bool) = true; kernel_rfl) | decide | (repeat' (first | refine And.intro ?_ ?_ | exact trivial | exact rfl))) ?_ | refine bcs_dec (fun h => ?_) (fun h => False.elim (by first | omega | exact h rfl)) | refine bcs_dec (fun h => False.elim (by omega)) (fun h => ?_) | refine bcs_dec (fun h => ?_) (fun h => ?_) | refine bcs_ndec (fun h => ?_) (fun h => ?_) | refine bcs_not ?_ | refine And.intro ?_ ?_)
      refine reg_ord [0, 1, 2, 3, 4] (.early 0 (.early 1 (.early 2 (.early 3 (.early 4 (.early 5 (.early 6 (.early 7 (.early 8 (.early 9 (.early 10 (.early 11 (.early 12 (.early 14 (.early 15 (.early 16 (.early 17 (.late 13 (.late 18 .nil))))))))))))))))))) (by decide +kernel) rfl ?_
      intro B' hB'
      have hG' := hG
      have hG := hB'.trans hG
      repeat' (first | refine Both.mk ?_ ?_ | refine And.intro (by first | omega | (dsimp only; omega) | (show (_ : Bool) = true; kernel_rfl) | decide | (repeat' (first | refine And.intro ?_ ?_ | exact trivial | exact rfl))) ?_ | refine bcs_dec (fun h => ?_) (fun h => False.elim (by first | omega | exact h rfl)) | refine bcs_dec (fun h => False.elim (by omega)) (fun h => ?_) | refine bcs_dec (fun h => ?_) (fun h => ?_) | refine bcs_ndec (fun h => ?_) (fun h => ?_) | refine bcs_not ?_ | refine And.intro ?_ ?_)
      refine call_rule [] (cb) hG ?_ ?_
      · (refine ⟨?_, ?_, rfl, rfl, rfl⟩ <;> repeat' (first | refine And.intro ?_ ?_ | exact trivial | exact rfl | refine lt0 | refine lt1 ?_ | refine lt2 ?_ ?_ | refine lt3 ?_ ?_ ?_ | refine lt4 ?_ ?_ ?_ ?_ | exact veq_refl _ | decide | (intro i hi; repeat' (first | refine And.intro ?_ ?_ | exact trivial | exact rfl))))
        all_goals first | exact Nat.le_refl _ | omega
      rintro _ _ _ ⟨rfl, rfl, rfl⟩
      repeat' (first | refine Both.mk ?_ ?_ | refine And.intro (by first | omega | (dsimp only; omega) | (show (_ : Bool) = true; kernel_rfl) | decide | (repeat' (first | refine And.intro ?_ ?_ | exact trivial | exact rfl))) ?_ | refine bcs_dec (fun h => ?_) (fun h => False.elim (by first | omega | exact h rfl)) | refine bcs_dec (fun h => False.elim (by omega)) (fun h => ?_) | refine bcs_dec (fun h => ?_) (fun h => ?_) | refine bcs_ndec (fun h => ?_) (fun h => ?_) | refine bcs_not ?_ | refine And.intro ?_ ?_)
      refine call_rule [.at 5 0, .at 8 0] (cr) hG ?_ ?_
      · (refine ⟨?_, ?_, rfl, rfl, rfl⟩ <;> repeat' (first | refine And.intro ?_ ?_ | exact trivial | exact rfl | refine lt0 | refine lt1 ?_ | refine lt2 ?_ ?_ | refine lt3 ?_ ?_ ?_ | refine lt4 ?_ ?_ ?_ ?_ | exact veq_refl _ | decide | (intro i hi; repeat' (first | refine And.intro ?_ ?_ | exact trivial | exact rfl))))
        all_goals first | exact Nat.le_refl _ | omega
      rintro _ _ _ ⟨rfl, rfl, rfl⟩
      repeat' (first | refine Both.mk ?_ ?_ | refine And.intro (by first | omega | (dsimp only; omega) | (show (_ : Bool) = true; kernel_rfl) | decide | (repeat' (first | refine And.intro ?_ ?_ | exact trivial | exact rfl))) ?_ | refine bcs_dec (fun h => ?_) (fun h => False.elim (by first | omega | exact h rfl)) | refine bcs_dec (fun h => False.elim (by omega)) (fun h => ?_) | refine bcs_dec (fun h => ?_) (fun h => ?_) | refine bcs_ndec (fun h => ?_) (fun h => ?_) | refine bcs_not ?_ | refine And.intro ?_ ?_)
      have hG := hG'
      refine reg_ord [] (.fork 0 (.early 1 (.fork 2 (.early 3 (.late 4 (.late 5 .nil))) 4 (.late 2 (.late 3 (.late 5 .nil))))) 2 (.early 3 (.late 0 (.late 1 (.late 4 (.late 5 .nil)))))) (by decide +kernel) rfl ?_
      intro B'' hB''
      repeat' (first | refine Both.mk ?_ ?_ | refine And.intro (by first | omega | (dsimp only; omega) | (show (_ : Bool) = true; kernel_rfl) | decide | (repeat' (first | refine And.intro ?_ ?_ | exact trivial | exact rfl))) ?_ | refine bcs_dec (fun h => ?_) (fun h => False.elim (by first | omega | exact h rfl)) | refine bcs_dec (fun h => False.elim (by omega)) (fun h => ?_) | refine bcs_dec (fun h => ?_) (fun h => ?_) | refine bcs_ndec (fun h => ?_) (fun h => ?_) | refine bcs_not ?_ | refine And.intro ?_ ?_)
      all_goals
        refine ⟨(u + 1, v + 1, some (o ++ X)), [.at 9 0], ?_, ?_, ?_⟩
        · refine ⟨by omega, by omega, by omega, (fun hf => by cases hf), ?_, ?_⟩
          · show (o ++ X).length + 8200 * (tw - (u + 1)).toNat ≤ 140737488000000
            rw [List.length_append]
            omega
          · show (o ++ X) ++ alkF a b hf s (tw - (u + 1)).toNat (u + 1) (v + 1) = T
            rw [← g6, List.append_assoc]
            skip
        · show (tw - (u + 1)).toNat < (tw - u).toNat
          omega
        · (refine ⟨rfl, rfl, ?_, ?_⟩ <;> repeat' (first | refine And.intro ?_ ?_ | exact trivial | exact rfl | refine lt0 | refine lt1 ?_ | refine lt2 ?_ ?_ | refine lt3 ?_ ?_ ?_ | refine lt4 ?_ ?_ ?_ ?_ | exact veq_refl _ | decide | (intro i hi; repeat' (first | refine And.intro ?_ ?_ | exact trivial | exact rfl))))
          all_goals first | exact Nat.le_refl _ | omega | exact veq_refl _ | (simp; done) | skip
    · skip
      obtain rfl : u = tw := by omega
      obtain rfl : v = y + (u - x) := by omega
      rw [show (u - u).toNat = 0 by omega] at g6
      simp only [alkF, List.append_nil] at g6
      subst g6
      repeat' (first | refine And.intro (by first | omega | (dsimp only; omega) | (show (_ : Bool) = true; kernel_rfl) | decide | (repeat' (first | refine And.intro ?_ ?_ | exact trivial | exact rfl))) ?_ | refine bcs_dec (fun h => ?_) (fun h => False.elim (by first | omega | exact h rfl)) | refine bcs_dec (fun h => False.elim (by omega)) (fun h => ?_) | refine bcs_dec (fun h => ?_) (fun h => ?_) | refine bcs_ndec (fun h => ?_) (fun h => ?_) | refine bcs_not ?_ | refine bcs_intro (fun h => ?_) (fun h => ?_) | refine And.intro ?_ ?_ | refine reg_tail (by kernel_rfl) ?_)
      refine ret_mem [.at 8 0] rfl rfl ?_ ?_
      · first | exact rfl | exact trivial
      · repeat' (first | refine And.intro ?_ ?_ | exact trivial)
        all_goals first | exact rfl | exact veq_refl _ | (show _ + 0 ≤ _; omega) | (intro i hi; exact ⟨rfl, trivial⟩) | skip
set_option maxRecDepth 100000 in
set_option maxHeartbeats 16000000 in
theorem alkU_con (a b : List Byt) (hf s tw x y : Int) (out : Byt) (ha : a.flatten.length ≤ 4194304) (hb : b.flatten.length ≤ 4194304) (hal : a.length ≤ 4194304) (hbl : b.length ≤ 4194304) (hh1 : 2 ≤ hf) (hh2 : hf ≤ 4096) (hs1 : 0 ≤ s) (hs2 : s ≤ 8192)
    (hx0 : 0 ≤ x) (hy0 : 0 ≤ y) (hx : x ≤ tw) (hto : tw ≤ a.length) (hyb : y + (tw - x) ≤ b.length) (hout : out.length + 8200 * (tw - x).toNat ≤ 140737488000000) :
    Con Tryd.prog glob 36 [.v (.int .i64 tw), .p 0 0 0, .p 1 0 0, .p 2 0 0, .p 3 0 0, .p 4 0 0] [(0, .box 3 [.v (.int .i64 x)]), (1, .box 3 [.v (.int .i64 y)]), (2, .box 72 [.p 5 0 0]), (3, .box 23 [.s 6 0 a.length]), (4, .box 23 [.s 7 0 b.length]), (5, .box 74 [.p 5 0 0, .o 8, .v (.int .i64 hf), .v (.int .i64 s)]), (6, stRo a), (7, stRo b), (8, byOwn out)] 9
      (retM (.t []) [(0, .box 3 [.v (.int .i64 tw)]), (1, .box 3 [.v (.int .i64 (y + (tw - x)))]), (2, .box 72 [.p 5 0 0]), (3, .box 23 [.s 6 0 a.length]), (4, .box 23 [.s 7 0 b.length]), (5, .box 74 [.p 5 0 0, .o 9, .v (.int .i64 hf), .v (.int .i64 s)]), (6, stRo a), (7, stRo b), (9, byOwn (out ++ alkF a b hf s (tw - x).toNat x y))] 10) := by
  obtain ⟨T, hT⟩ : ∃ T, T = out ++ alkF a b hf s (tw - x).toNat x y := ⟨_, rfl⟩
  rw [← hT]
  refine spec_intro (tab := tab) (N := 33) Tryd.func36 rfl rfl tab_ok mix rfl rfl _ rfl ?_
  intro B hG
  repeat' (first | refine And.intro (by first | omega | (dsimp only; omega) | (show (_ : Bool) = true; kernel_rfl) | decide | (repeat' (first | refine And.intro ?_ ?_ | exact trivial | exact rfl))) ?_ | refine bcs_dec (fun h => ?_) (fun h => False.elim (by first | omega | exact h rfl)) | refine bcs_dec (fun h => False.elim (by omega)) (fun h => ?_) | refine bcs_dec (fun h => ?_) (fun h => ?_) | refine bcs_ndec (fun h => ?_) (fun h => ?_) | refine bcs_not ?_ | refine bcs_intro (fun h => ?_) (fun h => ?_) | refine And.intro ?_ ?_ | refine reg_tail (by kernel_rfl) ?_)
  refine loop_rule (α := Int × Int × Byt) (fun (u, v, o) => uSt a b hf s tw u v o)
    (fun (u, v, o) => x ≤ u ∧ u ≤ tw ∧ v - y = u - x ∧ o.length + 8200 * (tw - u).toNat ≤ 140737488000000 ∧ o ++ alkF a b hf s (tw - u).toNat u v = T) (fun (u, _) => (tw - u).toNat) (x, y, out) [.at 8 0] ?_ ?_ ?_
  · exact ⟨by omega, by omega, by omega, hout, hT.symm⟩
  · (refine ⟨rfl, rfl, ?_, ?_⟩ <;> repeat' (first | refine And.intro ?_ ?_ | exact trivial | exact rfl | refine lt0 | refine lt1 ?_ | refine lt2 ?_ ?_ | refine lt3 ?_ ?_ ?_ | refine lt4 ?_ ?_ ?_ ?_ | exact veq_refl _ | decide | (intro i hi; repeat' (first | refine And.intro ?_ ?_ | exact trivial | exact rfl))))
    all_goals first | exact Nat.le_refl _ | omega | skip
  rintro ⟨u, v, o⟩ ⟨g1, g2, g3, g5, g6⟩
  by_cases hu : u < tw
  · skip
    have hst : (tw - u).toNat = (tw - (u + 1)).toNat + 1 := by omega
    rw [hst] at g6
    simp only [alkF] at g6
    have ea : a.getD u.toNat [] = a.getD (0 + u.toNat) [] := by rw [Nat.zero_add]
    have eb : b.getD v.toNat [] = b.getD (0 + v.toNat) [] := by rw [Nat.zero_add]
    rw [ea, eb] at g6
    have la := getD_flat a (0 + u.toNat)
    have lb := getD_flat b (0 + v.toNat)
    have cb := beside_con (a.getD (0 + u.toNat) []) (b.getD (0 + v.toNat) []) (by omega) (by omega)
    have cr := rowPU_con (a.getD (0 + u.toNat) []) (b.getD (0 + v.toNat) []) (besideF (a.getD (0 + u.toNat) []) (b.getD (0 + v.toNat) [])) hf s o (by omega) (by omega) (by omega) hh1 hh2 hs1 hs2
    have lr := row_len (a.getD (0 + u.toNat) []) (besideF (a.getD (0 + u.toNat) []) (b.getD (0 + v.toNat) [])) (b.getD (0 + v.toNat) []) (s := s) hh1 hh2
    obtain ⟨X, hX⟩ : ∃ X, X = rowF (a.getD (0 + u.toNat) []) (besideF (a.getD (0 + u.toNat) []) (b.getD (0 + v.toNat) [])) (b.getD (0 + v.toNat) []) hf s := ⟨_, rfl⟩
    rw [← hX] at g6 cr lr
    repeat' (first | refine Both.mk ?_ ?_ | refine And.intro (by first | omega | (dsimp only; omega) | (show (_ : Bool) = true; kernel_rfl) | decide | (repeat' (first | refine And.intro ?_ ?_ | exact trivial | exact rfl))) ?_ | refine bcs_dec (fun h => ?_) (fun h => False.elim (by first | omega | exact h rfl)) | refine bcs_dec (fun h => False.elim (by omega)) (fun h => ?_) | refine bcs_dec (fun h => ?_) (fun h => ?_) | refine bcs_ndec (fun h => ?_) (fun h => ?_) | refine bcs_not ?_ | refine And.intro ?_ ?_)
    refine reg_ord [0, 1, 2, 3, 4] (.early 0 (.early 1 (.early 2 (.early 3 (.early 4 (.early 5 (.early 6 (.early 7 (.early 8 (.early 9 (.early 10 (.early 11 (.early 12 (.early 14 (.early 15 (.early 16 (.early 17 (.late 13 (.late 18 .nil))))))))))))))))))) (by decide +kernel) rfl ?_
    intro B' hB'
    have hG' := hG
    have hG := hB'.trans hG
    repeat' (first | refine Both.mk ?_ ?_ | refine And.intro (by first | omega | (dsimp only; omega) | (show (_ : Bool) = true; kernel_rfl) | decide | (repeat' (first | refine And.intro ?_ ?_ | exact trivial | exact rfl))) ?_ | refine bcs_dec (fun h => ?_) (fun h => False.elim (by first | omega | exact h rfl)) | refine bcs_dec (fun h => False.elim (by omega)) (fun h => ?_) | refine bcs_dec (fun h => ?_) (fun h => ?_) | refine bcs_ndec (fun h => ?_) (fun h => ?_) | refine bcs_not ?_ | refine And.intro ?_ ?_)
    refine call_rule [] (cb) hG ?_ ?_
    · (refine ⟨?_, ?_, rfl, rfl, rfl⟩ <;> repeat' (first | refine And.intro ?_ ?_ | exact trivial | exact rfl | refine lt0 | refine lt1 ?_ | refine lt2 ?_ ?_ | refine lt3 ?_ ?_ ?_ | refine lt4 ?_ ?_ ?_ ?_ | exact veq_refl _ | decide | (intro i hi; repeat' (first | refine And.intro ?_ ?_ | exact trivial | exact rfl))))
      all_goals first | exact Nat.le_refl _ | omega
    rintro _ _ _ ⟨rfl, rfl, rfl⟩
    repeat' (first | refine Both.mk ?_ ?_ | refine And.intro (by first | omega | (dsimp only; omega) | (show (_ : Bool) = true; kernel_rfl) | decide | (repeat' (first | refine And.intro ?_ ?_ | exact trivial | exact rfl))) ?_ | refine bcs_dec (fun h => ?_) (fun h => False.elim (by first | omega | exact h rfl)) | refine bcs_dec (fun h => False.elim (by omega)) (fun h => ?_) | refine bcs_dec (fun h => ?_) (fun h => ?_) | refine bcs_ndec (fun h => ?_) (fun h => ?_) | refine bcs_not ?_ | refine And.intro ?_ ?_)
    refine call_rule [.at 5 0, .at 9 0] (cr) hG ?_ ?_
    · (refine ⟨?_, ?_, rfl, rfl, rfl⟩ <;> repeat' (first | refine And.intro ?_ ?_ | exact trivial | exact rfl | refine lt0 | refine lt1 ?_ | refine lt2 ?_ ?_ | refine lt3 ?_ ?_ ?_ | refine lt4 ?_ ?_ ?_ ?_ | exact veq_refl _ | decide | (intro i hi; repeat' (first | refine And.intro ?_ ?_ | exact trivial | exact rfl))))
      all_goals first | exact Nat.le_refl _ | omega
    rintro _ _ _ ⟨rfl, rfl, rfl⟩
    repeat' (first | refine Both.mk ?_ ?_ | refine And.intro (by first | omega | (dsimp only; omega) | (show (_ : Bool) = true; kernel_rfl) | decide | (repeat' (first | refine And.intro ?_ ?_ | exact trivial | exact rfl))) ?_ | refine bcs_dec (fun h => ?_) (fun h => False.elim (by first | omega | exact h rfl)) | refine bcs_dec (fun h => False.elim (by omega)) (fun h => ?_) | refine bcs_dec (fun h => ?_) (fun h => ?_) | refine bcs_ndec (fun h => ?_) (fun h => ?_) | refine bcs_not ?_ | refine And.intro ?_ ?_)
    have hG := hG'
    refine reg_ord [] (.fork 0 (.early 1 (.fork 2 (.early 3 (.late 4 (.late 5 .nil))) 4 (.late 2 (.late 3 (.late 5 .nil))))) 2 (.early 3 (.late 0 (.late 1 (.late 4 (.late 5 .nil)))))) (by decide +kernel) rfl ?_
    intro B'' hB''
    repeat' (first | refine Both.mk ?_ ?_ | refine And.intro (by first | omega | (dsimp only; omega) | (show (_ : Bool) = true; kernel_rfl) | decide | (repeat' (first | refine And.intro ?_ ?_ | exact trivial | exact rfl))) ?_ | refine bcs_dec (fun h => ?_) (fun h => False.elim (by first | omega | exact h rfl)) | refine bcs_dec (fun h => False.elim (by omega)) (fun h => ?_) | refine bcs_dec (fun h => ?_) (fun h => ?_) | refine bcs_ndec (fun h => ?_) (fun h => ?_) | refine bcs_not ?_ | refine And.intro ?_ ?_)
    all_goals
      refine ⟨(u + 1, v + 1, o ++ X), [.at 10 0], ?_, ?_, ?_⟩
      · refine ⟨by omega, by omega, by omega, ?_, ?_⟩
        · show (o ++ X).length + 8200 * (tw - (u + 1)).toNat ≤ 140737488000000
          rw [List.length_append]
          omega
        · show (o ++ X) ++ alkF a b hf s (tw - (u + 1)).toNat (u + 1) (v + 1) = T
          rw [← g6, List.append_assoc]
          skip
      · show (tw - (u + 1)).toNat < (tw - u).toNat
        omega
      · (refine ⟨rfl, rfl, ?_, ?_⟩ <;> repeat' (first | refine And.intro ?_ ?_ | exact trivial | exact rfl | refine lt0 | refine lt1 ?_ | refine lt2 ?_ ?_ | refine lt3 ?_ ?_ ?_ | refine lt4 ?_ ?_ ?_ ?_ | exact veq_refl _ | decide | (intro i hi; repeat' (first | refine And.intro ?_ ?_ | exact trivial | exact rfl))))
        all_goals first | exact Nat.le_refl _ | omega | exact veq_refl _ | (simp; done) | skip
  · skip
    obtain rfl : u = tw := by omega
    obtain rfl : v = y + (u - x) := by omega
    rw [show (u - u).toNat = 0 by omega] at g6
    simp only [alkF, List.append_nil] at g6
    subst g6
    repeat' (first | refine And.intro (by first | omega | (dsimp only; omega) | (show (_ : Bool) = true; kernel_rfl) | decide | (repeat' (first | refine And.intro ?_ ?_ | exact trivial | exact rfl))) ?_ | refine bcs_dec (fun h => ?_) (fun h => False.elim (by first | omega | exact h rfl)) | refine bcs_dec (fun h => False.elim (by omega)) (fun h => ?_) | refine bcs_dec (fun h => ?_) (fun h => ?_) | refine bcs_ndec (fun h => ?_) (fun h => ?_) | refine bcs_not ?_ | refine bcs_intro (fun h => ?_) (fun h => ?_) | refine And.intro ?_ ?_ | refine reg_tail (by kernel_rfl) ?_)
    refine ret_mem [.at 9 0] rfl rfl ?_ ?_
    · first | exact rfl | exact trivial
    · repeat' (first | refine And.intro ?_ ?_ | exact trivial)
      all_goals first | exact rfl | exact veq_refl _ | (show _ + 0 ≤ _; omega) | (intro i hi; exact ⟨rfl, trivial⟩) | skip
end Go.Proofs.YtjlobgcmhnkgnaaDoor
