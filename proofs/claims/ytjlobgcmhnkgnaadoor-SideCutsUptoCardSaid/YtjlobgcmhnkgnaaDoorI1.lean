/- Chapter 15: one text with marks: what is computed; joined pieces of a list. -/
import Derived.Test.YtjlobgcmhnkgnaaDoorW3
import Derived.Test.YtjlobgcmhnkgnaaDoorB5
import Derived.Test.YtjlobgcmhnkgnaaDoorBld
namespace Go.Proofs.YtjlobgcmhnkgnaaDoor
open Go Go.RowKit Vc

theorem join_seg (b : List Byt) (e n : Nat) (h : e + n ≤ b.length) (hn : n ≤ 140737488355328) (hl : ((b.drop e).take n).flatten.length ≤ 140737488355328) :
    Con Tryd.prog glob 26 [.s 0 0 n, .v (.string ⟨#[]⟩)] [(0, .ro 1 n fun i => stEnc (b.getD (i + e) []))] 1 (retV 1 (str ((b.drop e).take n).flatten)) := by
  refine con_row (args := [.string ⟨#[]⟩]) ⟨_, Tryd.func26, rfl, rfl⟩ fun w A k hnk hk hA => ?_
  have hlen : ((b.drop e).take n).length = n := seg_len h
  rcases Nat.eq_zero_or_pos n with h0 | hp
  · subst h0
    rw [List.take_zero]
    exact (Tryd.strings_Join_none A k ⟨#[]⟩ w).mono fun e w' ⟨h1, h2⟩ => ⟨h1, below_same h2⟩
  · obtain ⟨B, o, rfl, hb, hc⟩ := hA hp
    have e1 : (((b.drop e).take n).map bs).length = n := by rw [List.length_map, hlen]
    have e2 : (((b.drop e).take n).map bs).map (·.data.toList) = (b.drop e).take n := by rw [List.map_map]; exact (List.map_congr_left fun a _ => bs_data a).trans (List.map_id _)
    have h := Tryd.strings_Join B o k (((b.drop e).take n).map bs) ⟨#[]⟩ w (fun j y hy => ?_) hb (by rw [e1]; exact hn) (by rw [e1]; exact hnk) (by rw [e2, joinF_eq]; exact hl)
    · rw [e1, e2, joinF_eq] at h
      exact h
    · rw [List.getElem?_map] at hy
      obtain ⟨z, hz, rfl⟩ := Option.map_eq_some_iff.1 hy
      have hj : j < n := by rw [← hlen]; exact (List.getElem?_eq_some_iff.1 hz).1
      have hz2 : b.getD (j + e) [] = z := by
        rw [Nat.add_comm, ← getD_seg (i := e) hj, List.getD_eq_getElem?_getD, hz]
        rfl
      have := hc j hj 0 (.string (bs z)) (by rw [hz2]; rfl)
      simpa using this

/-- A piece of a list, as a text. -/
def segF (b : List Byt) (i j : Int) : Byt := ((b.drop i.toNat).take (j.toNat - i.toNat)).flatten
def inlF (a b : List Byt) : List Chg → Int → Byt
  | [], p => segF b p b.length
  | c :: r, p => segF b p c.B ++ ((if c.N > 0 then [91, 45] ++ segF a c.A (c.A + c.N) ++ [45, 93] else []) ++ ((if c.M > 0 then [123, 43] ++ segF b c.B (c.B + c.M) ++ [43, 125] else []) ++ inlF a b r (c.B + c.M)))
theorem cat3 (x y z : Byt) : (bs x ++ bs y) ++ bs z = bs (x ++ y ++ z) := by rw [bs_app, bs_app]
theorem size2 (x y : Byt) : (bs x ++ bs y).size = x.length + y.length := by rw [bs_app, bs_size, List.length_append]
def iSt (a b : List Byt) (L : List Chg) (k : Nat) (p : Int) : Option Byt → St
  | none => ⟨[(1, .s 1 0 a.length), (2, .s 2 0 b.length), (10, .p 4 0 0), (11, .v (.int .i64 p)), (26, .o 3), (27, .v (.int .i64 L.length)), (28, .v (.int .i64 k))], [(1, stRo a), (2, stRo b), (3, chOwn L), (4, .box 57 [.v (.pointer none), .v (.slice none 0 0)])], 5⟩
  | some out => ⟨[(1, .s 1 0 a.length), (2, .s 2 0 b.length), (10, .p 4 0 0), (11, .v (.int .i64 p)), (26, .o 3), (27, .v (.int .i64 L.length)), (28, .v (.int .i64 k))], [(1, stRo a), (2, stRo b), (3, chOwn L), (4, .box 57 [.p 4 0 0, .o 5]), (5, byOwn out)], 6⟩
def iOut : Option Byt → Byt
  | none => []
  | some out => out
end Go.Proofs.YtjlobgcmhnkgnaaDoor
