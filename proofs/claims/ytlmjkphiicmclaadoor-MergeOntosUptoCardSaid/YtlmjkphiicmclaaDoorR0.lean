/- What all rows of this seat share: the laid variable, a world that meets the condition, the openings. -/
import Derived.Test.YtlmjkphiicmclaaDoorNB
import Derived.Test.YtlmjkphiicmclaaDoorVc24
import Derived.Test.YtlmjkphiicmclaaDoorRows
import Derived.Test.YtlmjkphiicmclaaDoorTie
import Derived.Test.YtlmjkphiicmclaaDoorCards
import Derived.LaidLaws
import Derived.LaidHandle
import Derived.Stop.Joined
import Derived.SevenTiedAt
import Derived.SliceStrings
import Derived.SizedLaws
import Derived.JoinedCond
import Derived.Deep.DeepHandedRow
namespace Go.Proofs.YtlmjkphiicmclaaDoor
open Go Go.RowKit Go.ChangeShapes Go.WideShapes Vc

theorem Tryd.own : ownKnob Tryd.prog.godebug = none := by kernel_rfl
theorem Tryd.et : Tryd.prog.globalNamed "errors.errorType" = some 0 := by kernel_rfl
theorem Tryd.rt : (Tryd.prog.cutTypes.find? (·.1 == "internal/reflectlite.rtype")).map (·.2) = some 123 := by kernel_rfl
theorem Tryd.oneRow : ((List.range 189).filter fun t => Tryd.prog.rowNamed t [101, 114, 114, 111, 114]) = [28] := by kernel_rfl
theorem Tryd.tsize : Tryd.prog.types.size = 189 := by kernel_rfl
/-- All of these types can be read in again. -/
theorem readAll (ts : List TypeId) (h : ts.all (fun t => Tryd.prog.readableRec t && decide (t < Tryd.prog.types.size)) = true) : ∀ t ∈ ts, Tryd.prog.readableRec t = true ∧ t < Tryd.prog.types.size := by
  intro t ht
  have := List.all_eq_true.1 h t ht
  simpa using this
theorem noStand (ts : Array TypeId) (h : ts.toList.all (fun t => Tryd.prog.wantsStandIn t == false) = true) : ∀ (j : Nat) (t : TypeId), ts[j]? = some t → Tryd.prog.wantsStandIn t = false := by
  intro j t ht
  have hm : t ∈ ts.toList := by
    obtain ⟨hj, rfl⟩ := Array.getElem?_eq_some_iff.1 ht
    exact Array.getElem_mem_toList hj
  simpa using List.all_eq_true.1 h t hm
theorem Tryd.laidOut : laidOutB Tryd.prog = true := by kernel_rfl

/-- What the condition gives a walk: the variable's one cell. -/
theorem handle_of_laid {W : World} (h : laidMetH Tryd.prog [("errors.errorType", Rows.laid_errors_errorType)] W) : W.cell? ⟨0, 0, none⟩ = some (.iface 123 (.agg #[.pointer (some ⟨5, 28, none⟩)])) := by
  have h' : laidMet Tryd.prog [] W ∧ handlesMet Tryd.prog [("errors.errorType", Rows.laid_errors_errorType)] W := h
  obtain ⟨name, u, ty, e1, e2, e3, e4, e5⟩ := h'.2 _ (List.mem_singleton.2 rfl)
  have en : name = [101, 114, 114, 111, 114] := (Option.some.inj e1).symm
  subst en
  obtain rfl := Option.some.inj (Tryd.rt.symm.trans e2)
  have hm : ty ∈ (List.range 189).filter fun t => Tryd.prog.rowNamed t [101, 114, 114, 111, 114] := List.mem_filter.2 ⟨List.mem_range.2 (by rw [← Tryd.tsize]; exact e3), e4⟩
  rw [Tryd.oneRow] at hm
  obtain rfl := List.mem_singleton.1 hm
  have hh : typeHandle Tryd.prog 28 = .pointer (some ⟨5, 28, none⟩) := by kernel_rfl
  rw [hh] at e5
  simpa using World.var?_cell Tryd.et e5 0

/-- A world that meets the condition: the settled one, the variable's cell laid. -/
noncomputable def laidWorld (os : Os) : World :=
  let w0 := World.holding Tryd.prog os ⟨#[], #[], []⟩
  { w0 with heap := w0.heap.modify 0 fun
      | .cells _ t frozen => .cells #[.iface 123 (.agg #[.pointer (some ⟨5, 28, none⟩)])] t frozen
      | o => o }
theorem laidWorld_met (os : Os) (args : Array Value) : laidMetH Tryd.prog [("errors.errorType", Rows.laid_errors_errorType)] ((laidWorld os).forCall (fun _ _ => 0) ⟨#[], args, []⟩).memory :=
  laidMetH_of_parts (laidMet_nil _ _) (by kernel_rfl)

theorem glob_of {W : World} (h : laidMetH Tryd.prog [("errors.errorType", Rows.laid_errors_errorType)] W) : ∀ (g : Nat) (v : Value), (g, v) ∈ glob → W.cell? ⟨g, 0, none⟩ = some v := by
  intro g v hm
  obtain ⟨rfl, rfl⟩ : g = 0 ∧ v = _ := by simpa [glob] using hm
  exact handle_of_laid h

section
variable {H : Type} {enc : TypeId × Value → H} {w : World} {base : Nat} {spare : Nat → Bool} {held : Bool}
/-- A row of changes. -/
theorem open_chg {fuel : Nat} {v : Value} {x : DataW H × List MemPlace} (h : DataW.trod enc Tryd.prog w base spare held fuel 22 [v] = some x) :
    ∃ (l : List Chg) (L : Vc.Loc), l.length ≤ 9223372036854775807 ∧ RowAt w v 4 l.length (chRow l) L ∧ ((DataW.weights Tryd.prog 22 x.1).all (· ≤ reachBytes) = true → l.length * 32 ≤ 140737488355328) := by
  obtain ⟨l, L, h1, _, h3, h4⟩ := open_row (fun c : Chg => [.int .i64 c.A, .int .i64 c.N, .int .i64 c.B, .int .i64 c.M]) Chg.d (fun _ => True) (sz := 4) (by omega) (fun _ => rfl) (fun y x hx => by
      simp at hx; rcases hx with rfl | rfl | rfl | rfl <;> rfl) Tryd.underlying22 (by kernel_rfl)
    (fun n cs x h => by
      obtain ⟨a, b, c, d, rfl, _⟩ := get_ints4 (P := Tryd.prog) Tryd.underlying50 (by kernel_rfl) ⟨rfl, by kernel_rfl, by kernel_rfl⟩ ⟨rfl, by kernel_rfl, by kernel_rfl⟩ ⟨rfl, by kernel_rfl, by kernel_rfl⟩ ⟨rfl, by kernel_rfl, by kernel_rfl⟩ h
      exact ⟨⟨a, b, c, d⟩, rfl, trivial⟩) h
  exact ⟨l, L, Nat.le_trans h1 (by decide), h3, fun hw => Nat.le_trans (by rw [show Tryd.prog.bytesOf 50 = 32 by kernel_rfl] at h4; exact h4 hw) (by decide)⟩
set_option maxRecDepth 100000 in
/-- A string. -/
theorem open_s {r : Reach} {b0 : Nat} {v : Value} {d : DataW H} {ps : List MemPlace} (hval : Value.okWide Tryd.prog w r b0 9 v) (hd : DataW.Trod enc Tryd.prog w base spare held 9 v d ps) :
    ∃ l : Byt, v = .string (bs l) ∧ d = .lit (.string l) ∧ ps = [] ∧ l.length ≤ maxLen := by
  obtain ⟨s, rfl, rfl, rfl, hs⟩ := Go.ChangeMaps.open_string Tryd.underlying9 hval hd
  refine ⟨s.data.toList, by rw [bs_of], rfl, rfl, ?_⟩
  rw [Array.length_toList]
  exact hs
theorem s_sized {l : Byt} (h : (DataW.weights (H := H) Tryd.prog 9 (.lit (.string l))).all (· ≤ reachBytes) = true) : l.length ≤ 140737488355328 := by
  simp only [DataW.weights, List.all_cons, Bool.and_eq_true, decide_eq_true_eq] at h
  exact Nat.le_trans h.1 (by decide)

def dat : DataW H → List Byt → Prop := fun d L => (d = .nil ∧ L = []) ∨ ∃ sp, d = .slice (L.map fun l => .lit (.string l)) sp
/-- A row of strings. -/
theorem open_st {fuel : Nat} {v : Value} {x : DataW H × List MemPlace} (h : DataW.trod enc Tryd.prog w base spare held fuel 23 [v] = some x) :
    ∃ (L : List Byt) (K : Vc.Loc), L.length ≤ 9223372036854775807 ∧ (∀ y ∈ L, y.length ≤ maxLen) ∧ RowAt w v 1 L.length (stRow L) K ∧ dat x.1 L := by
  rcases Go.ChangeShapes.open_strings Tryd.underlying23 Tryd.underlying9 (by kernel_rfl) h with ⟨h0, rfl⟩ | ⟨a, len, cap, ss, h0, _, hl, hm, hn, rfl, hc, hs⟩
  · obtain rfl : v = .slice none 0 0 := by simpa using h0
    exact ⟨[], ⟨0, 0, 1, .nilFunc⟩, by simp, fun y hy => absurd hy (by simp), fun c ρ hc => ⟨⟨_, none, 0, hc, rfl, Nat.le_refl _, Nat.zero_le _, fun h => absurd h (Nat.lt_irrefl _)⟩, fun B => ⟨_, hc, rfl, fun h => absurd h (Nat.lt_irrefl _), fun i hi => absurd hi (Nat.not_lt_zero _)⟩⟩, .inl ⟨rfl, rfl⟩⟩
  · obtain rfl : v = .slice (some a) len cap := by simpa using h0
    have hlen : len ≤ ss.length := by rw [hn]; split <;> omega
    have e1 : ((ss.take len).map fun s => s.data.toList).length = len := by simp; omega
    have hz : 0 < len → a.block < w.heap.size ∧ a.spot = none := by
      intro h0
      have h3 := hc 0 (by omega)
      simp only [Addr.add, if_pos] at h3
      exact cell_some_lt h3
    have hadd : 0 < len → ∀ k, a.add k = ⟨a.block, a.off + k, none⟩ := by
      intro h0 k
      have := (hz h0).2
      unfold Addr.add
      by_cases hk : k = 0
      · subst hk; simp only [if_pos]; cases a; simp_all
      · rw [if_neg hk]
    refine ⟨(ss.take len).map fun s => s.data.toList, ⟨a.block, a.off, 1, .nilFunc⟩, by rw [e1]; unfold maxLen at hm; omega, ?_, fun c ρ hρ => ⟨?_, fun B => ?_⟩, .inr ⟨Go.ChangeShapes.strs (ss.drop len), ?_⟩⟩
    · intro y hy
      obtain ⟨s, hs', rfl⟩ := List.mem_map.1 hy
      rw [Array.length_toList]
      exact hs s (List.mem_of_mem_take hs')
    · rw [e1]
      refine ⟨_, some a, cap, hρ, rfl, hl, hm, fun h0 => ?_⟩
      have := hadd h0 0
      simp only [Addr.add, if_pos] at this
      simp only [Nat.zero_mul, Nat.add_zero]
      exact congrArg some this
    · rw [e1]
      refine ⟨_, hρ, rfl, fun h0 => (hz h0).1, fun i hi => ⟨[.string (ss.getD i ByteArray.empty)], ?_, rfl, by simp [Value.oneCell'], fun j u hu => ?_⟩⟩
      · have e : ((ss.take len).map fun s => s.data.toList).getD i [] = (ss.getD i ByteArray.empty).data.toList := by
          have hi' : i < ss.length := by omega
          simp [List.getElem?_take_of_lt hi, hi']
        simp only [stRow, stEnc, str, e, bs_of]
        exact (RelL.plain [_] _).2 rfl
      · have hj : j = 0 := by
          cases j with
          | zero => rfl
          | succ j => simp at hu
        subst hj
        simp only [List.getElem?_cons_zero, Option.some.injEq] at hu
        subst hu
        have := hc i (by omega)
        rw [hadd (by omega)] at this
        simpa using this
    · simp only [Go.ChangeShapes.strs, List.map_map]
      rfl
/-- What the bound gives. -/
theorem up_all : ∀ L : List Byt, Rows.uptoBulkAll (L.map fun l => DataW.lit (H := H) (.string l)) = L.length + L.flatten.length
  | [] => rfl
  | x :: r => by
    simp only [List.map_cons, Rows.uptoBulkAll, Rows.uptoBulk, up_all r, List.length_cons, List.flatten_cons, List.length_append]
    omega
theorem bulk_st {d : DataW H} {L : List Byt} (hd : dat d L) : L.length + L.flatten.length ≤ Rows.uptoBulk d := by
  rcases hd with ⟨rfl, rfl⟩ | ⟨sp, rfl⟩
  · simp
  · simp only [Rows.uptoBulk, up_all]
    omega
theorem bulk_pos (d : DataW H) : 1 ≤ Rows.uptoBulk d := by
  cases d with
  | lit l => cases l <;> simp [Rows.uptoBulk]
  | _ => simp [Rows.uptoBulk]
theorem bulk_all {k : Nat} : ∀ L : List (DataW H), (∀ d ∈ L, k ≤ Rows.uptoBulk d) → L.length * k ≤ Rows.uptoBulkAll L
  | [], _ => by simp
  | d :: r, h => by
    have h1 := h d (List.mem_cons_self ..)
    have h2 := bulk_all r fun x hx => h x (List.mem_cons_of_mem _ hx)
    simp only [Rows.uptoBulkAll, List.length_cons, Nat.add_mul, Nat.one_mul]
    omega
/-- A row of structs weighs as much as its fields. -/
theorem bulk_row {t e : TypeId} {fs : Array Field} (ht : Tryd.prog.underlying t = some (.slice e)) (he : Tryd.prog.underlying e = some (.struct fs)) {fuel : Nat} {v : Value} {x : DataW H × List MemPlace} (h : DataW.trod enc Tryd.prog w base spare held fuel t [v] = some x)
    {A : Option Addr} {n k : Nat} (hv : v = .slice A n k) : n * (fs.size + 1) ≤ Rows.uptoBulk x.1 := by
  rcases DataW.trod_slice ht h with ⟨h0, rfl⟩ | ⟨a, len, cap, elems, rest, m, _, h0, rfl, _, _, _, hlen, hel, _⟩
  · simp only [List.cons.injEq, and_true] at h0
    rw [hv] at h0
    cases h0
    simp
  · simp only [List.cons.injEq, and_true] at h0
    rw [hv] at h0
    cases h0
    have := bulk_all (k := fs.size + 1) (elems.map (·.1)) (fun d hd => by
      obtain ⟨y, hy, rfl⟩ := List.mem_map.1 hd
      obtain ⟨i, hi, rfl⟩ := List.getElem_of_mem hy
      have h1 := hel i (by omega)
      rw [List.getElem?_eq_getElem hi] at h1
      obtain ⟨cs, _, h2⟩ := Option.bind_eq_some_iff.1 h1
      obtain ⟨xs, _, _, hx, _, hl, _⟩ := DataW.trod_struct he h2
      rw [hx]
      have := bulk_all (k := 1) (xs.map (·.1)) fun d _ => bulk_pos d
      simp only [List.length_map, Nat.mul_one] at this
      simp only [Rows.uptoBulk]
      omega)
    simp only [List.length_map, hlen] at this
    simp only [Rows.uptoBulk]
    omega
theorem bulk_chg {fuel : Nat} {v : Value} {x : DataW H × List MemPlace} (h : DataW.trod enc Tryd.prog w base spare held fuel 22 [v] = some x) {l : List Chg} {L : Vc.Loc} (hR : RowAt w v 4 l.length (chRow l) L) : l.length * 5 ≤ Rows.uptoBulk x.1 := by
  obtain ⟨_, A, k, _, hv, _⟩ := rel_s (hR.rel (c := 0) (ρ := [L]) rfl)
  exact bulk_row Tryd.underlying22 Tryd.underlying50 h hv
theorem len_flat {L : List Byt} {x : Byt} (h : x ∈ L) : x.length ≤ L.flatten.length := by
  obtain ⟨a, b, rfl⟩ := List.append_of_mem h
  simp; omega
end
theorem wf_range {n : Int} (h : (Lit.int .i64 n).wf = true) : -9223372036854775808 ≤ n ∧ n ≤ 9223372036854775807 := by
  simp only [Lit.wf, Bool.and_eq_true, decide_eq_true_eq] at h
  exact h
section
variable {H : Type} {enc : TypeId × Value → H} {w : World} {base : Nat} {spare : Nat → Bool} {held : Bool}
theorem open_i {fuel : Nat} {v : Value} {x : DataW H × List MemPlace} (h : DataW.trod enc Tryd.prog w base spare held fuel 3 [v] = some x) : ∃ n, v = .int .i64 n := by
  obtain ⟨n, hn, _⟩ := DataW.trod_int Tryd.underlying3 h
  exact ⟨n, by simpa using hn⟩
set_option maxRecDepth 100000 in
theorem open_job {r : Reach} {b0 : Nat} {v : Value} {d : DataW H} {p : List MemPlace} (hv : Value.okWide Tryd.prog w r b0 25 v) (h : DataW.Trod enc Tryd.prog w base spare held 25 v d p) :
    ∃ (s t : List Chg) (b m y lab : List Byt) (n : Int) (c0 c1 c2 c3 c4 c5 : Value) (L0 L1 L2 L3 L4 L5 : Vc.Loc), v = .agg [c0, c1, c2, c3, c4, c5, .int .i64 n].toArray ∧
      (s.length * 5 + t.length * 5 + (b.length + b.flatten.length) + (m.length + m.flatten.length) + (y.length + y.flatten.length) + (lab.length + lab.flatten.length) ≤ Rows.uptoBulk d) ∧
      RowAt w c0 4 s.length (chRow s) L0 ∧ RowAt w c1 4 t.length (chRow t) L1 ∧ RowAt w c2 1 b.length (stRow b) L2 ∧ RowAt w c3 1 m.length (stRow m) L3 ∧ RowAt w c4 1 y.length (stRow y) L4 ∧ RowAt w c5 1 lab.length (stRow lab) L5 := by
  obtain ⟨cs, ys, m, rfl, rfl, hl, hly, hf⟩ := open_fields Tryd.underlying25 (by kernel_rfl) (by kernel_rfl) hv h
  obtain ⟨c0, y0, e0, g0, t0⟩ := hf 0 _ rfl
  obtain ⟨c1, y1, e1, g1, t1⟩ := hf 1 _ rfl
  obtain ⟨c2, y2, e2, g2, t2⟩ := hf 2 _ rfl
  obtain ⟨c3, y3, e3, g3, t3⟩ := hf 3 _ rfl
  obtain ⟨c4, y4, e4, g4, t4⟩ := hf 4 _ rfl
  obtain ⟨c5, y5, e5, g5, t5⟩ := hf 5 _ rfl
  obtain ⟨c6, y6, e6, g6, t6⟩ := hf 6 _ rfl
  obtain ⟨s, L0, _, h0, _⟩ := open_chg t0
  have q0 : _ ≤ Rows.uptoBulk y0.1 := bulk_chg t0 h0
  obtain ⟨t, L1, _, h1, _⟩ := open_chg t1
  have q1 : _ ≤ Rows.uptoBulk y1.1 := bulk_chg t1 h1
  obtain ⟨b, L2, _, _, h2, d2⟩ := open_st t2
  have q2 : _ ≤ Rows.uptoBulk y2.1 := bulk_st d2
  obtain ⟨mm, L3, _, _, h3, d3⟩ := open_st t3
  have q3 : _ ≤ Rows.uptoBulk y3.1 := bulk_st d3
  obtain ⟨y, L4, _, _, h4, d4⟩ := open_st t4
  have q4 : _ ≤ Rows.uptoBulk y4.1 := bulk_st d4
  obtain ⟨lab, L5, _, _, h5, d5⟩ := open_st t5
  have q5 : _ ≤ Rows.uptoBulk y5.1 := bulk_st d5
  obtain ⟨n, rfl⟩ := open_i t6
  refine ⟨s, t, b, mm, y, lab, n, c0, c1, c2, c3, c4, c5, L0, L1, L2, L3, L4, L5, ?_, ?_, h0, h1, h2, h3, h4, h5⟩
  · match cs, hl with
    | [x0, x1, x2, x3, x4, x5, x6], _ =>
      simp at e0 e1 e2 e3 e4 e5 e6
      rw [e0, e1, e2, e3, e4, e5, e6]
  · match ys, hly with
    | [x0, x1, x2, x3, x4, x5, x6], _ =>
      simp at g0 g1 g2 g3 g4 g5 g6
      subst g0 g1 g2 g3 g4 g5 g6
      simp only [List.map_cons, List.map_nil, Rows.uptoBulk, Rows.uptoBulkAll]
      omega
end
end Go.Proofs.YtlmjkphiicmclaaDoor
