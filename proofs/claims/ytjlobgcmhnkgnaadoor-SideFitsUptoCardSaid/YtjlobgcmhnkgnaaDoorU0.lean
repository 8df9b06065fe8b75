/- What all rows of this seat share: the laid variable, a world that meets the condition, the openings. -/
import Derived.Test.YtjlobgcmhnkgnaaDoorQ1
import Derived.Test.YtjlobgcmhnkgnaaDoorVc24
import Derived.Test.YtjlobgcmhnkgnaaDoorRows
import Derived.Test.YtjlobgcmhnkgnaaDoorTie
import Derived.Test.YtjlobgcmhnkgnaaDoorCards
import Derived.LaidLaws
import Derived.LaidHandle
import Derived.Stop.Joined
import Derived.SevenTiedAt
import Derived.SliceStrings
import Derived.SizedLaws
import Derived.JoinedCond
import Derived.Deep.DeepHandedRow
namespace Go.Proofs.YtjlobgcmhnkgnaaDoor
open Go Go.RowKit Go.ChangeShapes Go.WideShapes Vc

theorem Tryd.own : ownKnob Tryd.prog.godebug = none := by kernel_rfl
theorem Tryd.et : Tryd.prog.globalNamed "errors.errorType" = some 0 := by kernel_rfl
theorem Tryd.rt : (Tryd.prog.cutTypes.find? (·.1 == "internal/reflectlite.rtype")).map (·.2) = some 107 := by kernel_rfl
theorem Tryd.oneRow : ((List.range 153).filter fun t => Tryd.prog.rowNamed t [101, 114, 114, 111, 114]) = [25] := by kernel_rfl
theorem Tryd.tsize : Tryd.prog.types.size = 153 := by kernel_rfl
/-- All of these types can be read in again. -/
theorem readAll (ts : List TypeId) (h : ts.all (fun t => Tryd.prog.readableRec t && decide (t < Tryd.prog.types.size)) = true) : ∀ t ∈ ts, Tryd.prog.readableRec t = true ∧ t < Tryd.prog.types.size := by
  intro t ht
  have := List.all_eq_true.1 h t ht
  simpa using this
theorem noStand (ts : Array TypeId) (h : ts.toList.all (fun t => Tryd.prog.wantsStandIn t == false) = true) : ∀ (j : Nat) (t : TypeId), ts[j]? = some t → Tryd.prog.wantsStandIn t = false := by
  intro j t ht
  have hm : t ∈ ts.toList := by
    obtain ⟨hj, rfl⟩ := Array.getElem?_eq_some_iff.1 ht
    exact Array.getElem_mem_toList hj
  simpa using List.all_eq_true.1 h t hm
theorem Tryd.laidOut : laidOutB Tryd.prog = true := by kernel_rfl

/-- What the condition gives a walk: the variable's one cell. -/
theorem handle_of_laid {W : World} (h : laidMetH Tryd.prog [("errors.errorType", Rows.laid_errors_errorType)] W) : W.cell? ⟨0, 0, none⟩ = some (.iface 107 (.agg #[.pointer (some ⟨2, 25, none⟩)])) := by
  have h' : laidMet Tryd.prog [] W ∧ handlesMet Tryd.prog [("errors.errorType", Rows.laid_errors_errorType)] W := h
  obtain ⟨name, u, ty, e1, e2, e3, e4, e5⟩ := h'.2 _ (List.mem_singleton.2 rfl)
  have en : name = [101, 114, 114, 111, 114] := (Option.some.inj e1).symm
  subst en
  obtain rfl := Option.some.inj (Tryd.rt.symm.trans e2)
  have hm : ty ∈ (List.range 153).filter fun t => Tryd.prog.rowNamed t [101, 114, 114, 111, 114] := List.mem_filter.2 ⟨List.mem_range.2 (by rw [← Tryd.tsize]; exact e3), e4⟩
  rw [Tryd.oneRow] at hm
  obtain rfl := List.mem_singleton.1 hm
  have hh : typeHandle Tryd.prog 25 = .pointer (some ⟨2, 25, none⟩) := by kernel_rfl
  rw [hh] at e5
  simpa using World.var?_cell Tryd.et e5 0

/-- A world that meets the condition: the settled one, the variable's cell laid. -/
noncomputable def laidWorld (os : Os) : World :=
  let w0 := World.holding Tryd.prog os ⟨#[], #[], []⟩
  { w0 with heap := w0.heap.modify 0 fun
      | .cells _ t frozen => .cells #[.iface 107 (.agg #[.pointer (some ⟨2, 25, none⟩)])] t frozen
      | o => o }
theorem laidWorld_met (os : Os) (args : Array Value) : laidMetH Tryd.prog [("errors.errorType", Rows.laid_errors_errorType)] ((laidWorld os).forCall (fun _ _ => 0) ⟨#[], args, []⟩).memory :=
  laidMetH_of_parts (laidMet_nil _ _) (by kernel_rfl)

theorem glob_of {W : World} (h : laidMetH Tryd.prog [("errors.errorType", Rows.laid_errors_errorType)] W) : ∀ (g : Nat) (v : Value), (g, v) ∈ glob → W.cell? ⟨g, 0, none⟩ = some v := by
  intro g v hm
  obtain ⟨rfl, rfl⟩ : g = 0 ∧ v = _ := by simpa [glob] using hm
  exact handle_of_laid h

section
variable {H : Type} {enc : TypeId × Value → H} {w : World} {base : Nat} {spare : Nat → Bool} {held : Bool}
/-- A row of changes. -/
theorem open_chg {fuel : Nat} {v : Value} {x : DataW H × List MemPlace} (h : DataW.trod enc Tryd.prog w base spare held fuel 22 [v] = some x) :
    ∃ (l : List Chg) (L : Vc.Loc), l.length ≤ 9223372036854775807 ∧ RowAt w v 4 l.length (chRow l) L ∧ ((DataW.weights Tryd.prog 22 x.1).all (· ≤ reachBytes) = true → l.length * 32 ≤ 140737488355328) := by
  obtain ⟨l, L, h1, _, h3, h4⟩ := open_row (fun c : Chg => [.int .i64 c.A, .int .i64 c.N, .int .i64 c.B, .int .i64 c.M]) Chg.d (fun _ => True) (sz := 4) (by omega) (fun _ => rfl) (fun y x hx => by
      simp at hx; rcases hx with rfl | rfl | rfl | rfl <;> rfl) Tryd.underlying22 (by kernel_rfl)
    (fun n cs x h => by
      obtain ⟨a, b, c, d, rfl, _⟩ := get_ints4 (P := Tryd.prog) Tryd.underlying39 (by kernel_rfl) ⟨rfl, by kernel_rfl, by kernel_rfl⟩ ⟨rfl, by kernel_rfl, by kernel_rfl⟩ ⟨rfl, by kernel_rfl, by kernel_rfl⟩ ⟨rfl, by kernel_rfl, by kernel_rfl⟩ h
      exact ⟨⟨a, b, c, d⟩, rfl, trivial⟩) h
  exact ⟨l, L, Nat.le_trans h1 (by decide), h3, fun hw => Nat.le_trans (by rw [show Tryd.prog.bytesOf 39 = 32 by kernel_rfl] at h4; exact h4 hw) (by decide)⟩
set_option maxRecDepth 100000 in
/-- A string. -/
theorem open_s {r : Reach} {b0 : Nat} {v : Value} {d : DataW H} {ps : List MemPlace} (hval : Value.okWide Tryd.prog w r b0 9 v) (hd : DataW.Trod enc Tryd.prog w base spare held 9 v d ps) :
    ∃ l : Byt, v = .string (bs l) ∧ d = .lit (.string l) ∧ ps = [] ∧ l.length ≤ maxLen := by
  obtain ⟨s, rfl, rfl, rfl, hs⟩ := Go.ChangeMaps.open_string Tryd.underlying9 hval hd
  refine ⟨s.data.toList, by rw [bs_of], rfl, rfl, ?_⟩
  rw [Array.length_toList]
  exact hs
theorem s_sized {l : Byt} (h : (DataW.weights (H := H) Tryd.prog 9 (.lit (.string l))).all (· ≤ reachBytes) = true) : l.length ≤ 140737488355328 := by
  simp only [DataW.weights, List.all_cons, Bool.and_eq_true, decide_eq_true_eq] at h
  exact Nat.le_trans h.1 (by decide)

def dat : DataW H → List Byt → Prop := fun d L => (d = .nil ∧ L = []) ∨ ∃ sp, d = .slice (L.map fun l => .lit (.string l)) sp
/-- A row of strings. -/
theorem open_st {fuel : Nat} {v : Value} {x : DataW H × List MemPlace} (h : DataW.trod enc Tryd.prog w base spare held fuel 23 [v] = some x) :
    ∃ (L : List Byt) (K : Vc.Loc), L.length ≤ 9223372036854775807 ∧ (∀ y ∈ L, y.length ≤ maxLen) ∧ RowAt w v 1 L.length (stRow L) K ∧ dat x.1 L := by
  rcases Go.ChangeShapes.open_strings Tryd.underlying23 Tryd.underlying9 (by kernel_rfl) h with ⟨h0, rfl⟩ | ⟨a, len, cap, ss, h0, _, hl, hm, hn, rfl, hc, hs⟩
  · obtain rfl : v = .slice none 0 0 := by simpa using h0
    exact ⟨[], ⟨0, 0, 1, .nilFunc⟩, by simp, fun y hy => absurd hy (by simp), fun c ρ hc => ⟨⟨_, none, 0, hc, rfl, Nat.le_refl _, Nat.zero_le _, fun h => absurd h (Nat.lt_irrefl _)⟩, fun B => ⟨_, hc, rfl, fun h => absurd h (Nat.lt_irrefl _), fun i hi => absurd hi (Nat.not_lt_zero _)⟩⟩, .inl ⟨rfl, rfl⟩⟩
  · obtain rfl : v = .slice (some a) len cap := by simpa using h0
    have hlen : len ≤ ss.length := by rw [hn]; split <;> omega
    have e1 : ((ss.take len).map fun s => s.data.toList).length = len := by simp; omega
    have hz : 0 < len → a.block < w.heap.size ∧ a.spot = none := by
      intro h0
      have h3 := hc 0 (by omega)
      simp only [Addr.add, if_pos] at h3
      exact cell_some_lt h3
    have hadd : 0 < len → ∀ k, a.add k = ⟨a.block, a.off + k, none⟩ := by
      intro h0 k
      have := (hz h0).2
      unfold Addr.add
      by_cases hk : k = 0
      · subst hk; simp only [if_pos]; cases a; simp_all
      · rw [if_neg hk]
    refine ⟨(ss.take len).map fun s => s.data.toList, ⟨a.block, a.off, 1, .nilFunc⟩, by rw [e1]; unfold maxLen at hm; omega, ?_, fun c ρ hρ => ⟨?_, fun B => ?_⟩, .inr ⟨Go.ChangeShapes.strs (ss.drop len), ?_⟩⟩
    · intro y hy
      obtain ⟨s, hs', rfl⟩ := List.mem_map.1 hy
      rw [Array.length_toList]
      exact hs s (List.mem_of_mem_take hs')
    · rw [e1]
      refine ⟨_, some a, cap, hρ, rfl, hl, hm, fun h0 => ?_⟩
      have := hadd h0 0
      simp only [Addr.add, if_pos] at this
      simp only [Nat.zero_mul, Nat.add_zero]
      exact congrArg some this
    · rw [e1]
      refine ⟨_, hρ, rfl, fun h0 => (hz h0).1, fun i hi => ⟨[.string (ss.getD i ByteArray.empty)], ?_, rfl, by simp [Value.oneCell'], fun j u hu => ?_⟩⟩
      · have e : ((ss.take len).map fun s => s.data.toList).getD i [] = (ss.getD i ByteArray.empty).data.toList := by
          have hi' : i < ss.length := by omega
          simp [List.getElem?_take_of_lt hi, hi']
        simp only [stRow, stEnc, str, e, bs_of]
        exact (RelL.plain [_] _).2 rfl
      · have hj : j = 0 := by
          cases j with
          | zero => rfl
          | succ j => simp at hu
        subst hj
        simp only [List.getElem?_cons_zero, Option.some.injEq] at hu
        subst hu
        have := hc i (by omega)
        rw [hadd (by omega)] at this
        simpa using this
    · simp only [Go.ChangeShapes.strs, List.map_map]
      rfl
/-- What the bound gives. -/
theorem up_all : ∀ L : List Byt, Rows.uptoBulkAll (L.map fun l => DataW.lit (H := H) (.string l)) = L.length + L.flatten.length
  | [] => rfl
  | x :: r => by
    simp only [List.map_cons, Rows.uptoBulkAll, Rows.uptoBulk, up_all r, List.length_cons, List.flatten_cons, List.length_append]
    omega
theorem bulk_st {d : DataW H} {L : List Byt} (hd : dat d L) : L.length + L.flatten.length ≤ Rows.uptoBulk d := by
  rcases hd with ⟨rfl, rfl⟩ | ⟨sp, rfl⟩
  · simp
  · simp only [Rows.uptoBulk, up_all]
    omega
theorem bulk_pos (d : DataW H) : 1 ≤ Rows.uptoBulk d := by
  cases d with
  | lit l => cases l <;> simp [Rows.uptoBulk]
  | _ => simp [Rows.uptoBulk]
theorem bulk_all {k : Nat} : ∀ L : List (DataW H), (∀ d ∈ L, k ≤ Rows.uptoBulk d) → L.length * k ≤ Rows.uptoBulkAll L
  | [], _ => by simp
  | d :: r, h => by
    have h1 := h d (List.mem_cons_self ..)
    have h2 := bulk_all r fun x hx => h x (List.mem_cons_of_mem _ hx)
    simp only [Rows.uptoBulkAll, List.length_cons, Nat.add_mul, Nat.one_mul]
    omega
/-- A row of structs weighs as much as its fields. -/
theorem bulk_row {t e : TypeId} {fs : Array Field} (ht : Tryd.prog.underlying t = some (.slice e)) (he : Tryd.prog.underlying e = some (.struct fs)) {fuel : Nat} {v : Value} {x : DataW H × List MemPlace} (h : DataW.trod enc Tryd.prog w base spare held fuel t [v] = some x)
    {A : Option Addr} {n k : Nat} (hv : v = .slice A n k) : n * (fs.size + 1) ≤ Rows.uptoBulk x.1 := by
  rcases DataW.trod_slice ht h with ⟨h0, rfl⟩ | ⟨a, len, cap, elems, rest, m, _, h0, rfl, _, _, _, hlen, hel, _⟩
  · simp only [List.cons.injEq, and_true] at h0
    rw [hv] at h0
    cases h0
    simp
  · simp only [List.cons.injEq, and_true] at h0
    rw [hv] at h0
    cases h0
    have := bulk_all (k := fs.size + 1) (elems.map (·.1)) (fun d hd => by
      obtain ⟨y, hy, rfl⟩ := List.mem_map.1 hd
      obtain ⟨i, hi, rfl⟩ := List.getElem_of_mem hy
      have h1 := hel i (by omega)
      rw [List.getElem?_eq_getElem hi] at h1
      obtain ⟨cs, _, h2⟩ := Option.bind_eq_some_iff.1 h1
      obtain ⟨xs, _, _, hx, _, hl, _⟩ := DataW.trod_struct he h2
      rw [hx]
      have := bulk_all (k := 1) (xs.map (·.1)) fun d _ => bulk_pos d
      simp only [List.length_map, Nat.mul_one] at this
      simp only [Rows.uptoBulk]
      omega)
    simp only [List.length_map, hlen] at this
    simp only [Rows.uptoBulk]
    omega
theorem bulk_chg {fuel : Nat} {v : Value} {x : DataW H × List MemPlace} (h : DataW.trod enc Tryd.prog w base spare held fuel 22 [v] = some x) {l : List Chg} {L : Vc.Loc} (hR : RowAt w v 4 l.length (chRow l) L) : l.length * 5 ≤ Rows.uptoBulk x.1 := by
  obtain ⟨_, A, k, _, hv, _⟩ := rel_s (hR.rel (c := 0) (ρ := [L]) rfl)
  exact bulk_row Tryd.underlying22 Tryd.underlying39 h hv
theorem len_flat {L : List Byt} {x : Byt} (h : x ∈ L) : x.length ≤ L.flatten.length := by
  obtain ⟨a, b, rfl⟩ := List.append_of_mem h
  simp; omega
end
end Go.Proofs.YtjlobgcmhnkgnaaDoor
