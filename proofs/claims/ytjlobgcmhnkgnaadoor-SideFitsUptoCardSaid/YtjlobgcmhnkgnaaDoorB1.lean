/- Chapter 6: data, and contracts: what a script costs, whether it is one. -/
import Derived.Test.YtjlobgcmhnkgnaaDoorS1
namespace Go.Proofs.YtjlobgcmhnkgnaaDoor
open Go Go.RowKit Vc
structure Chg where
  A : Int
  N : Int
  B : Int
  M : Int
abbrev Chg.enc (c : Chg) : List SV := [.v (.int .i64 c.A), .v (.int .i64 c.N), .v (.int .i64 c.B), .v (.int .i64 c.M)]
abbrev Chg.d : Chg := ⟨0, 0, 0, 0⟩
abbrev chRow (l : List Chg) : Nat → List SV := fun i => Chg.enc (l.getD i Chg.d)
abbrev chRo (l : List Chg) : Ch := .ro 4 l.length (chRow l)
def costF : List Chg → Int → Int → Int × Int
  | [], n, m => (n, m)
  | c :: r, n, m => if c.A < 0 ∨ c.B < 0 ∨ c.N < 0 ∨ c.M < 0 ∨ c.N > 4611686018427387904 - n ∨ c.M > 4611686018427387904 - m then (0, 0) else costF r (n + c.N) (m + c.M)

end Go.Proofs.YtjlobgcmhnkgnaaDoor
