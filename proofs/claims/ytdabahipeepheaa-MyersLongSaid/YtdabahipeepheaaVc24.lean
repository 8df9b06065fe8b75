/- From a contract to a given row: an argument that is a struct of one-cell fields. -/
import Derived.Test.YtdabahipeepheaaVc23
namespace Go.Proofs.Ytdabahipeepheaa.Vc
open Go Go.RowKit Go.ChangeShapes Go.WideShapes Go.Deep

section
variable {H : Type} {enc : TypeId × Value → H} {P : Program} {w : World} {base : Nat} {spare : Nat → Bool} {held : Bool}

/-- The fields of a struct that is handed in, each by its cell. -/
theorem open_fields {r : Reach} {b0 : Nat} {t : TypeId} {fs : Array Field} {v : Value} {d : DataW H} {p : List MemPlace} (hs : P.underlying t = some (.struct fs)) (hone : oneCellFields P fs = true) (hC : P.cellsOf t = fs.size)
    (hv : Value.okWide P w r b0 t v) (h : DataW.Trod enc P w base spare held t v d p) :
    ∃ (cs : List Value) (ys : List (DataW H × List MemPlace)) (n : Nat), v = .agg cs.toArray ∧ d = .agg (ys.map (·.1)) ∧ cs.length = fs.size ∧ ys.length = fs.size ∧
      ∀ (j : Nat) (f : Field), fs[j]? = some f → ∃ c y, cs[j]? = some c ∧ ys[j]? = some y ∧ DataW.trod enc P w base spare held n f.type [c] = some y := by
  obtain ⟨cs, rfl, hsz⟩ := okWide_struct hs hv
  obtain ⟨l⟩ := cs
  obtain ⟨fuel, hf⟩ := h
  obtain ⟨xs, n, _, hx, _, hlen, hg⟩ := DataW.trod_struct hs hf
  have hl : l.length = fs.size := by rw [← hC]; exact hsz
  simp only [Prod.mk.injEq] at hx
  refine ⟨l, xs, n, rfl, hx.1, hl, hlen, fun j f hj => ?_⟩
  obtain ⟨ho, hk⟩ := hone_of hone j f hj
  have hjl : j < fs.size := (Array.getElem?_eq_some_iff.1 hj).1
  have h1 := hg j f hj
  rw [ho, hk] at h1
  have h2 : l[j]? = some (l[j]'(by omega)) := List.getElem?_eq_getElem (by omega)
  have h3 : xs[j]? = some (xs[j]'(by omega)) := List.getElem?_eq_getElem (by omega)
  have h4 : ((Value.agg l.toArray).cells.toList.drop j).take 1 = [l[j]'(by omega)] := by
    show (l.drop j).take 1 = _
    rw [List.drop_eq_getElem_cons (by omega)]
    rfl
  rw [h4] at h1
  exact ⟨_, _, h2, h3, h1.trans h3⟩

/-- The fields' weights are the struct's. -/
theorem sized_field {t : TypeId} {fs : Array Field} {ys : List (DataW H × List MemPlace)} (hs : P.underlying t = some (.struct fs)) (h : (DataW.weights P t (.agg (ys.map (·.1)))).all (· ≤ reachBytes) = true) {j : Nat} {f : Field} {y : DataW H × List MemPlace}
    (hj : fs[j]? = some f) (hy : ys[j]? = some y) : (DataW.weights P f.type y.1).all (· ≤ reachBytes) = true := by
  simp only [DataW.weights, hs] at h
  exact sized_at j h (by simp [hj]) (by simp [hy])

theorem RowAt.rel {v : Value} {sz n : Nat} {f : Nat → List SV} {L : Loc} (h : RowAt w v sz n f L) {c : Nat} {ρ : List Loc} (hc : ρ[c]? = some L) : Rel ρ (.s c 0 n) v := (h c ρ hc).1
theorem RowAt.one {v : Value} {sz n : Nat} {f : Nat → List SV} {L : Loc} (h : RowAt w v sz n f L) : v.oneCell' = true := by
  obtain ⟨L', A, k, _, rfl, _⟩ := rel_s (h.rel (c := 0) (ρ := [L]) rfl)
  rfl
end
end Go.Proofs.Ytdabahipeepheaa.Vc
