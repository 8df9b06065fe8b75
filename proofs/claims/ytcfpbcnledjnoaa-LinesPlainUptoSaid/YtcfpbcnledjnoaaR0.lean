/- What all rows of this seat share: readings, the openings, what the bound gives. -/
import Derived.Test.YtcfpbcnledjnoaaS7
import Derived.Test.YtcfpbcnledjnoaaVc24
import Derived.Test.YtcfpbcnledjnoaaRows
import Derived.SliceStrings
import Derived.SizedLaws
import Derived.JoinedCond
import Derived.Deep.CondSized
namespace Go.Proofs.Ytcfpbcnledjnoaa
open Go Go.RowKit Go.ChangeShapes Go.WideShapes Vc

theorem Try.own : ownKnob Try.prog.godebug = none := by kernel_rfl
/-- All of these types can be read in again. -/
theorem readAll (ts : List TypeId) (h : ts.all (fun t => Try.prog.readableRec t && decide (t < Try.prog.types.size)) = true) : ∀ t ∈ ts, Try.prog.readableRec t = true ∧ t < Try.prog.types.size := by
  intro t ht
  have := List.all_eq_true.1 h t ht
  simpa using this
theorem Try.laidOut : laidOutB Try.prog = true := by kernel_rfl

section
variable {H : Type} {enc : TypeId × Value → H} {w : World} {base : Nat} {spare : Nat → Bool} {held : Bool}

/-- A string. -/
theorem open_s {r : Reach} {b0 : Nat} {v : Value} {d : DataW H} {ps : List MemPlace} (hval : Value.okWide Try.prog w r b0 9 v) (hd : DataW.Trod enc Try.prog w base spare held 9 v d ps) :
    ∃ l : Byt, v = .string (bs l) ∧ d = .lit (.string l) ∧ ps = [] ∧ l.length ≤ maxLen := by
  obtain ⟨s, rfl, rfl, rfl, hs⟩ := Go.ChangeMaps.open_string Try.underlying9 hval hd
  refine ⟨s.data.toList, by rw [bs_of], rfl, rfl, ?_⟩
  rw [Array.length_toList]
  exact hs
theorem s_sized {l : Byt} (h : (DataW.weights (H := H) Try.prog 9 (.lit (.string l))).all (· ≤ reachBytes) = true) : l.length ≤ 140737488355328 := by
  simp only [DataW.weights, List.all_cons, Bool.and_eq_true, decide_eq_true_eq] at h
  exact Nat.le_trans h.1 (by decide)

def dat : DataW H → List Byt → Prop := fun d L => (d = .nil ∧ L = []) ∨ ∃ sp, d = .slice (L.map fun l => .lit (.string l)) sp
/-- A row of strings. -/
theorem open_st {fuel : Nat} {v : Value} {x : DataW H × List MemPlace} (h : DataW.trod enc Try.prog w base spare held fuel 23 [v] = some x) :
    ∃ (L : List Byt) (K : Vc.Loc), L.length ≤ 9223372036854775807 ∧ (∀ y ∈ L, y.length ≤ maxLen) ∧ RowAt w v 1 L.length (stRow L) K ∧ dat x.1 L := by
  rcases Go.ChangeShapes.open_strings Try.underlying23 Try.underlying9 (by kernel_rfl) h with ⟨h0, rfl⟩ | ⟨a, len, cap, ss, h0, _, hl, hm, hn, rfl, hc, hs⟩
  · obtain rfl : v = .slice none 0 0 := by simpa using h0
    exact ⟨[], ⟨0, 0, 1, .nilFunc⟩, by simp, fun y hy => absurd hy (by simp), fun c ρ hc => ⟨⟨_, none, 0, hc, rfl, Nat.le_refl _, Nat.zero_le _, fun h => absurd h (Nat.lt_irrefl _)⟩, fun B => ⟨_, hc, rfl, fun h => absurd h (Nat.lt_irrefl _), fun i hi => absurd hi (Nat.not_lt_zero _)⟩⟩, .inl ⟨rfl, rfl⟩⟩
  · obtain rfl : v = .slice (some a) len cap := by simpa using h0
    have hlen : len ≤ ss.length := by rw [hn]; split <;> omega
    have e1 : ((ss.take len).map fun s => s.data.toList).length = len := by simp; omega
    have hz : 0 < len → a.block < w.heap.size ∧ a.spot = none := by
      intro h0
      have h3 := hc 0 (by omega)
      simp only [Addr.add, if_pos] at h3
      exact cell_some_lt h3
    have hadd : 0 < len → ∀ k, a.add k = ⟨a.block, a.off + k, none⟩ := by
      intro h0 k
      have := (hz h0).2
      unfold Addr.add
      by_cases hk : k = 0
      · subst hk; simp only [if_pos]; cases a; simp_all
      · rw [if_neg hk]
    refine ⟨(ss.take len).map fun s => s.data.toList, ⟨a.block, a.off, 1, .nilFunc⟩, by rw [e1]; unfold maxLen at hm; omega, ?_, fun c ρ hρ => ⟨?_, fun B => ?_⟩, .inr ⟨Go.ChangeShapes.strs (ss.drop len), ?_⟩⟩
    · intro y hy
      obtain ⟨s, hs', rfl⟩ := List.mem_map.1 hy
      rw [Array.length_toList]
      exact hs s (List.mem_of_mem_take hs')
    · rw [e1]
      refine ⟨_, some a, cap, hρ, rfl, hl, hm, fun h0 => ?_⟩
      have := hadd h0 0
      simp only [Addr.add, if_pos] at this
      simp only [Nat.zero_mul, Nat.add_zero]
      exact congrArg some this
    · rw [e1]
      refine ⟨_, hρ, rfl, fun h0 => (hz h0).1, fun i hi => ⟨[.string (ss.getD i ByteArray.empty)], ?_, rfl, by simp [Value.oneCell'], fun j u hu => ?_⟩⟩
      · have e : ((ss.take len).map fun s => s.data.toList).getD i [] = (ss.getD i ByteArray.empty).data.toList := by
          have hi' : i < ss.length := by omega
          simp [List.getElem?_take_of_lt hi, hi']
        simp only [stRow, stEnc, str, e, bs_of]
        exact (RelL.plain [_] _).2 rfl
      · have hj : j = 0 := by
          cases j with
          | zero => rfl
          | succ j => simp at hu
        subst hj
        simp only [List.getElem?_cons_zero, Option.some.injEq] at hu
        subst hu
        have := hc i (by omega)
        rw [hadd (by omega)] at this
        simpa using this
    · simp only [Go.ChangeShapes.strs, List.map_map]
      rfl
/-- What the bound gives. -/
theorem up_s {l : Byt} {r : List (DataW H)} {m : Nat} (h : Rows.uptoBulkAll (DataW.lit (.string l) :: r) ≤ m) : l.length + 1 ≤ m ∧ Rows.uptoBulkAll r ≤ m := by
  simp only [Rows.uptoBulkAll, Rows.uptoBulk] at h
  omega
theorem up_i {n : Int} {r : List (DataW H)} {m : Nat} (h : Rows.uptoBulkAll (DataW.lit (.int .i64 n) :: r) ≤ m) : Rows.uptoBulkAll r ≤ m := by
  simp only [Rows.uptoBulkAll, Rows.uptoBulk] at h
  omega
theorem up_all : ∀ L : List Byt, Rows.uptoBulkAll (L.map fun l => DataW.lit (H := H) (.string l)) = L.length + L.flatten.length
  | [] => rfl
  | x :: r => by
    simp only [List.map_cons, Rows.uptoBulkAll, Rows.uptoBulk, up_all r, List.length_cons, List.flatten_cons, List.length_append]
    omega
theorem up_st {d : DataW H} {L : List Byt} (hd : dat d L) {r : List (DataW H)} {m : Nat} (h : Rows.uptoBulkAll (d :: r) ≤ m) : L.length + L.flatten.length ≤ m ∧ Rows.uptoBulkAll r ≤ m := by
  rcases hd with ⟨rfl, rfl⟩ | ⟨sp, rfl⟩
  · simp only [Rows.uptoBulkAll, Rows.uptoBulk] at h
    exact ⟨by simp, by omega⟩
  · simp only [Rows.uptoBulkAll, Rows.uptoBulk, up_all] at h
    omega
theorem len_flat {L : List Byt} {x : Byt} (h : x ∈ L) : x.length ≤ L.flatten.length := by
  obtain ⟨a, b, rfl⟩ := List.append_of_mem h
  simp; omega
end
end Go.Proofs.Ytcfpbcnledjnoaa
