/- Chapter 18: settled texts: all that the statement looks at. -/
import Derived.Test.YtlmjkphiicmclaaDoorT3
namespace Go.Proofs.YtlmjkphiicmclaaDoor
open Go Go.RowKit Vc

theorem mg_two {s t : List Chg} {b m y lab : List Byt} {fmt : Int} (h : chErr s t b m y = 0) (hl : labE lab = 0) (h1 : 1 ≤ fmt) (h5 : fmt ≤ 5) : mgErr s t b m y lab fmt = 0 ∨ mgErr s t b m y lab fmt = 2 := by
  rw [mg_err2 h hl h1 h5]
  split
  · exact Or.inr rfl
  · exact Or.inl rfl
theorem mg_cl {s t : List Chg} {b m y lab : List Byt} {fmt : Int} (h : 3 ≤ fmt) : mgCl s t b m y lab fmt = 0 := by
  unfold mgCl
  rw [clF_none h]
  split <;> rfl
end Go.Proofs.YtlmjkphiicmclaaDoor
