/- Chapter 6: contracts: cost (the document's), validity. -/
import Derived.Test.YtjlobgcmhnkgnaaDoorB1
namespace Go.Proofs.YtjlobgcmhnkgnaaDoor
open Go Go.RowKit Vc

/-- Is the rest of a script one, from (a, b) on? -/
def bad (c : Chg) (a b n m : Int) : Prop := c.N < 0 ∨ c.M < 0 ∨ (c.N = 0 ∧ c.M = 0) ∨ c.A < a ∨ c.A > n ∨ c.B < b ∨ c.B > m ∨ c.A - a ≠ c.B - b ∨ c.N > n - c.A ∨ c.M > m - c.B
instance (c : Chg) (a b n m : Int) : Decidable (bad c a b n m) := by unfold bad; infer_instance
def validF : List Chg → Int → Int → Int → Int → Int
  | [], a, b, n, m => if n - a ≠ m - b then 60 else 0
  | c :: r, a, b, n, m => if bad c a b n m then 60 else validF r (c.A + c.N) (c.B + c.M) n m
def validE (s : List Chg) (n m : Int) : Int := if n < 0 ∨ n > 4194304 ∨ m < 0 ∨ m > 4194304 then 1 else validF s 0 0 n m

def errV (e : Int) : Value := if e = 0 then .nilIface else .iface 63 (.int .i64 e)
theorem errV_0 {e : Int} (h : e = 0) : errV e = .nilIface := if_pos h
theorem errV_n {e : Int} (h : e ≠ 0) : errV e = .iface 63 (.int .i64 e) := if_neg h
end Go.Proofs.YtjlobgcmhnkgnaaDoor
