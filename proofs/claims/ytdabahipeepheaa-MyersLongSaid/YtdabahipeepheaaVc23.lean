/- From a contract to a given row: the arguments opened to chunks that are only read, what is below left as it was. -/
import Derived.Test.YtdabahipeepheaaVc22
import Derived.Deep.Slices
import Derived.Deep.Fields
import Derived.ChangeSame
import Derived.ChangeVars
import Derived.JoinedOf
import Derived.RowKit
import Derived.Carry
import Derived.OpenShut
namespace Go.Proofs.Ytdabahipeepheaa.Vc
open Go Go.RowKit Go.ChangeShapes Go.WideShapes Go.Deep

theorem cell_some_lt {w : World} {a : Addr} {v : Value} (h : w.cell? a = some v) : a.block < w.heap.size ∧ a.spot = none := by
  unfold World.cell? at h
  split at h
  · rename_i c _ _ e
    refine ⟨(Array.getElem?_eq_some_iff.1 e).1, ?_⟩
    cases hs : a.spot with
    | none => rfl
    | some k => simp [hs] at h
  · cases h

theorem msat_ro {W : World} {G : List (Nat × Value)} {ρ : List Loc} {m : Mem} (hG : ∀ (g : Nat) (v : Value), (g, v) ∈ G → g < W.heap.size ∧ gAt W g v)
    (hc : ∀ c, ChSat ⟨W, fun _ => False, ρ, G⟩ ρ W c (mget m c)) (hw : ∀ c, (mget m c).wr = false) : MSat ⟨W, fun _ => False, ρ, G⟩ ρ m W := by
  refine ⟨hc, fun c d b _ h => ?_, ⟨rfl, rfl, rfl, Nat.le_refl _, fun _ _ _ => rfl⟩, Ext.refl _, fun g v h => ⟨(hG g v h).1, fun h => h, (hG g v h).2⟩, fun c b hl o => ?_⟩
  · rw [hw c] at h; cases h
  · have h := hw c
    revert o
    cases e : mget m c with
    | non => intro o; exact o.elim
    | ro sz n f =>
      rintro ⟨_, L, hL, _⟩
      have := (List.getElem?_eq_some_iff.1 hL).1
      exact absurd this (Nat.not_lt.2 hl)
    | own e' sz n f => rw [e] at h; cases h
    | box t l => rw [e] at h; cases h

theorem con_close {P : Program} {G : List (Nat × Value)} {g : Nat} {args : List SV} {m : Mem} {nx : Nat} {Q : SV → Mem → Nat → Prop} {W : World} {ρ : List Loc} {vs : List Value} {v : Value}
    (h : Con P G g args m nx Q) (hQ : ∀ x m n, Q x m n → x = .v v) (hn : ρ.length = nx) (hm : MSat ⟨W, fun _ => False, ρ, G⟩ ρ m W) (hr : RelL ρ args vs) :
    Calls P g vs.toArray W fun e w' => e = .returned v ∧ Below W.heap.size W w' := by
  refine (h.2 ⟨W, fun _ => False, ρ, G⟩ W vs rfl rfl hn hm hr).mono ?_
  rintro e w' ⟨v', x, m', n, ρ', rfl, hq, hl, hrel, hms⟩
  obtain rfl := hQ _ _ _ hq
  simp only [Rel] at hrel
  subst hrel
  exact ⟨rfl, hms.frm.os, hms.frm.tape, hms.frm.output, hms.frm.size, fun k hk => hms.frm.block k hk fun h => h⟩

/-- The value v is a row of n elements of sz cells each, element i the values f i. -/
def RowAt (w : World) (v : Value) (sz n : Nat) (f : Nat → List SV) (L : Loc) : Prop :=
  ∀ (c : Nat) (ρ : List Loc), ρ[c]? = some L → Rel ρ (.s c 0 n) v ∧ ∀ B : Bs, ChSat B ρ w c (.ro sz n f)

section
variable {H : Type} {enc : TypeId × Value → H} {P : Program} {w : World} {base : Nat} {spare : Nat → Bool} {held : Bool}

theorem open_row {α : Type} (encV : α → List Value) (dflt : α) (R : α → Prop) {t e sz : Nat} (hsz : 0 < sz) (hlen : ∀ y, (encV y).length = sz) (h1 : ∀ y, ∀ x ∈ encV y, x.oneCell' = true)
    (ht : P.underlying t = some (.slice e)) (hC : P.cellsOf e = sz)
    (hget : ∀ n cs x, DataW.trod enc P w base spare held n e cs = some x → ∃ y, cs = encV y ∧ R y) {fuel : Nat} {v : Value} {x : DataW H × List MemPlace} (h : DataW.trod enc P w base spare held fuel t [v] = some x) :
    ∃ (l : List α) (L : Loc), l.length ≤ maxLen ∧ (∀ y ∈ l, R y) ∧ RowAt w v sz l.length (fun i => (encV (l.getD i dflt)).map .v) L ∧ ((DataW.weights P t x.1).all (· ≤ reachBytes) = true → l.length * P.bytesOf e ≤ reachBytes) := by
  haveI : Inhabited α := ⟨dflt⟩
  rcases open_slice ht h with ⟨h0, _⟩ | ⟨a, len, cap, m, n, D, Pl, hcs, hb, hl, hm, hmm, hx, hi⟩
  · obtain rfl : v = .slice none 0 0 := by simpa using h0
    refine ⟨[], ⟨0, 0, sz, .nilFunc⟩, by simp, fun y hy => absurd hy (by simp), fun c ρ hc => ⟨⟨_, none, 0, hc, rfl, Nat.le_refl _, Nat.zero_le _, fun h => absurd h (Nat.lt_irrefl _)⟩, fun B => ⟨_, hc, rfl, fun h => absurd h (Nat.lt_irrefl _), fun i hi => absurd hi (Nat.not_lt_zero _)⟩⟩, fun _ => by simp⟩
  · obtain rfl : v = .slice (some a) len cap := by simpa using hcs
    have hlm : len ≤ m := by rw [hmm]; split <;> omega
    obtain ⟨F, hF⟩ := choose_lt (α := α) (n := len) (p := fun i y => R y ∧ w.cells? base (a.add (i * sz)) sz = some (encV y)) (fun i hil => by
      obtain ⟨cs', hc, ht'⟩ := hi i (by omega)
      obtain ⟨y, rfl, hR⟩ := hget _ _ _ ht'
      rw [hC] at hc
      exact ⟨y, hR, hc⟩)
    have hcell : ∀ i, i < len → ∀ j u, (encV (F i))[j]? = some u → w.cell? (a.add (i * sz + j)) = some u := by
      intro i hil j u hu
      obtain ⟨_, hcl, hat⟩ := World.cells?_some (hF i hil).2
      have hj : j < sz := by rw [← hlen (F i)]; exact (List.getElem?_eq_some_iff.1 hu).1
      rw [← Go.Deep.add_add, hat j hj, hu]
    have hz : 0 < len → a.block < w.heap.size ∧ a.spot = none := by
      intro h0
      have h2 : 0 < (encV (F 0)).length := by rw [hlen]; exact hsz
      have h3 := hcell 0 h0 0 _ (List.getElem?_eq_getElem h2)
      simp only [Nat.zero_mul, Nat.zero_add] at h3
      exact cell_some_lt (a := a) h3
    have hadd : 0 < len → ∀ k, a.add k = ⟨a.block, a.off + k, none⟩ := by
      intro h0 k
      have := (hz h0).2
      unfold Addr.add
      by_cases hk : k = 0
      · subst hk; simp only [if_pos]; cases a; simp_all
      · rw [if_neg hk]
    have hget' : ∀ i, i < len → ((List.range len).map F).getD i dflt = F i := by
      intro i hil
      simp [List.getD, hil]
    refine ⟨(List.range len).map F, ⟨a.block, a.off, sz, .nilFunc⟩, by simp; omega, ?_, fun c ρ hc => ⟨?_, fun B => ?_⟩, fun hw => ?_⟩
    · intro y hy
      obtain ⟨i, hi', rfl⟩ := List.mem_map.1 hy
      exact (hF i (List.mem_range.1 hi')).1
    · refine ⟨_, some a, cap, hc, by simp, by simp; exact hl, hm, fun h0 => ?_⟩
      have h0' : 0 < len := by simpa using h0
      have := hadd h0' 0
      simp only [Addr.add, if_pos] at this
      simp only [Nat.zero_mul, Nat.add_zero]
      exact congrArg some this
    · refine ⟨_, hc, rfl, fun h0 => (hz (by simpa using h0)).1, fun i hi' => ?_⟩
      have hil : i < len := by simpa using hi'
      simp only [hget' i hil]
      refine ⟨encV (F i), (RelL.plain _ _).2 rfl, hlen _, h1 _, fun j u hu => ?_⟩
      have := hcell i hil j u hu
      rw [hadd (Nat.lt_of_le_of_lt (Nat.zero_le _) hil)] at this
      simpa [Nat.add_assoc] using this
    · rw [hx] at hw
      simp only [DataW.weights, ht, List.all_cons, Bool.and_eq_true, decide_eq_true_eq] at hw
      refine Nat.le_trans ?_ hw.1
      simp only [List.length_map, List.length_range]
      exact Nat.mul_le_mul_right _ (Nat.le_add_right _ _)

theorem sized_at : ∀ {ts : List TypeId} {ds : List (DataW H)} (j : Nat) {t : TypeId} {d : DataW H}, (DataW.weightsEach P ts ds).all (· ≤ reachBytes) = true → ts[j]? = some t → ds[j]? = some d → (DataW.weights P t d).all (· ≤ reachBytes) = true
  | [], ds, j, t, d, _, ht, _ => by simp at ht
  | _ :: _, [], j, t, d, _, _, hd => by simp at hd
  | t0 :: ts, d0 :: ds, j, t, d, h, ht, hd => by
    simp only [DataW.weightsEach, List.all_append, Bool.and_eq_true] at h
    cases j with
    | zero => simp at ht hd; subst ht hd; exact h.1
    | succ j => exact sized_at j h.2 (by simpa using ht) (by simpa using hd)

/-- A row of ints. -/
theorem open_row_ints {t e : Nat} (ht : P.underlying t = some (.slice e)) (he : P.underlying e = some (.int .i64)) (hC : P.cellsOf e = 1) {fuel : Nat} {v : Value} {x : DataW H × List MemPlace} (h : DataW.trod enc P w base spare held fuel t [v] = some x) :
    ∃ (l : List Int) (L : Loc), l.length ≤ maxLen ∧ (∀ y ∈ l, (Lit.int .i64 y).wf = true) ∧ RowAt w v 1 l.length (fun i => [.v (.int .i64 (l.getD i 0))]) L ∧ ((DataW.weights P t x.1).all (· ≤ reachBytes) = true → l.length * P.bytesOf e ≤ reachBytes) :=
  open_row (fun n => [.int .i64 n]) 0 _ Nat.one_pos (fun _ => rfl) (fun y x hx => by obtain rfl := List.mem_singleton.1 hx; rfl) ht hC
    (fun n cs x h => by obtain ⟨k, rfl, _, hw⟩ := DataW.trod_int he h; exact ⟨k, rfl, hw⟩) h

/-- A row of strings. -/
theorem open_row_strs {t e : Nat} (ht : P.underlying t = some (.slice e)) (he : P.underlying e = some .string) (hC : P.cellsOf e = 1) {fuel : Nat} {v : Value} {x : DataW H × List MemPlace} (h : DataW.trod enc P w base spare held fuel t [v] = some x) :
    ∃ (l : List ByteArray) (L : Loc), l.length ≤ maxLen ∧ (∀ y ∈ l, y.size ≤ maxLen) ∧ RowAt w v 1 l.length (fun i => [.v (.string (l.getD i ByteArray.empty))]) L ∧ ((DataW.weights P t x.1).all (· ≤ reachBytes) = true → l.length * P.bytesOf e ≤ reachBytes) :=
  open_row (fun n => [.string n]) ByteArray.empty _ Nat.one_pos (fun _ => rfl) (fun y x hx => by obtain rfl := List.mem_singleton.1 hx; rfl) ht hC
    (fun n cs x h => by obtain ⟨k, rfl, _, hw⟩ := DataW.trod_string he h; exact ⟨k, rfl, hw⟩) h

/-- Four ints in a struct. -/
theorem get_ints4 {e : Nat} {f0 f1 f2 f3 : Field} (he : P.underlying e = some (.struct #[f0, f1, f2, f3])) (hC : P.cellsOf e = 4)
    (h0 : f0.offset = 0 ∧ P.underlying f0.type = some (.int .i64) ∧ P.cellsOf f0.type = 1) (h1 : f1.offset = 1 ∧ P.underlying f1.type = some (.int .i64) ∧ P.cellsOf f1.type = 1)
    (h2 : f2.offset = 2 ∧ P.underlying f2.type = some (.int .i64) ∧ P.cellsOf f2.type = 1) (h3 : f3.offset = 3 ∧ P.underlying f3.type = some (.int .i64) ∧ P.cellsOf f3.type = 1)
    {fuel : Nat} {cs : List Value} {x : DataW H × List MemPlace} (h : DataW.trod enc P w base spare held fuel e cs = some x) :
    ∃ a b c d : Int, cs = [.int .i64 a, .int .i64 b, .int .i64 c, .int .i64 d] ∧ (Lit.int .i64 a).wf = true ∧ (Lit.int .i64 b).wf = true ∧ (Lit.int .i64 c).wf = true ∧ (Lit.int .i64 d).wf = true := by
  obtain ⟨xs, n, _, _, hcl, hxl, hf⟩ := DataW.trod_struct he h
  rw [hC] at hcl
  match cs, hcl with
  | [c0, c1, c2, c3], _ =>
    match xs, hxl with
    | [y0, y1, y2, y3], _ =>
      have k0 := hf 0 f0 rfl
      have k1 := hf 1 f1 rfl
      have k2 := hf 2 f2 rfl
      have k3 := hf 3 f3 rfl
      rw [h0.1, h0.2.2] at k0
      rw [h1.1, h1.2.2] at k1
      rw [h2.1, h2.2.2] at k2
      rw [h3.1, h3.2.2] at k3
      obtain ⟨a, ha, _, wa⟩ := DataW.trod_int h0.2.1 k0
      obtain ⟨b, hb, _, wb⟩ := DataW.trod_int h1.2.1 k1
      obtain ⟨c, hc, _, wc⟩ := DataW.trod_int h2.2.1 k2
      obtain ⟨d, hd, _, wd⟩ := DataW.trod_int h3.2.1 k3
      simp at ha hb hc hd
      subst ha hb hc hd
      exact ⟨a, b, c, d, rfl, wa, wb, wc, wd⟩

/-- Two ints in an array. -/
theorem get_arr2 {e i : Nat} (he : P.underlying e = some (.array 2 i)) (hC : P.cellsOf e = 2) (hi : P.underlying i = some (.int .i64)) (hci : P.cellsOf i = 1)
    {fuel : Nat} {cs : List Value} {x : DataW H × List MemPlace} (h : DataW.trod enc P w base spare held fuel e cs = some x) :
    ∃ a b : Int, cs = [.int .i64 a, .int .i64 b] ∧ (Lit.int .i64 a).wf = true ∧ (Lit.int .i64 b).wf = true := by
  obtain ⟨xs, n, _, _, hcl, hxl, hf⟩ := DataW.trod_array he h
  rw [hC] at hcl
  match cs, hcl with
  | [c0, c1], _ =>
    match xs, hxl with
    | [y0, y1], _ =>
      have k0 := hf 0 (by omega)
      have k1 := hf 1 (by omega)
      rw [hci] at k0 k1
      obtain ⟨a, ha, _, wa⟩ := DataW.trod_int hi k0
      obtain ⟨b, hb, _, wb⟩ := DataW.trod_int hi k1
      simp at ha hb
      subst ha hb
      exact ⟨a, b, rfl, wa, wb⟩

/-- An argument that is a slice: its one cell. -/
theorem trod_slice_cell {r : Reach} {b0 : Nat} {t e : Nat} {v : Value} {d : DataW H} {ps : List MemPlace} (ht : P.underlying t = some (.slice e)) (hv : Value.okWide P w r b0 t v) (h : DataW.Trod enc P w base spare held t v d ps) :
    ∃ fuel, DataW.trod enc P w base spare held fuel t [v] = some (d, ps) := by
  obtain ⟨a, len, cap, rfl⟩ := okWide_slice ht hv
  exact h

theorem trodAll_stays (hl : laidOutB P = true) {W W' : World} (hb : Below W.heap.size W W') : ∀ (ts : List TypeId) (vs : List Value) (ds : List (DataW H)) (ps : List MemPlace),
    (∀ t ∈ ts, P.readableRec t = true ∧ t < P.types.size) → DataW.TrodAll enc P W 0 (fun _ => true) true ts vs ds ps → (∀ p ∈ ps, p.block < W.heap.size) → DataW.TrodAll enc P W' 0 (fun b => decide (b < W.heap.size)) true ts vs ds ps
  | [], vs, ds, ps, _, h, _ => by
    cases vs <;> cases ds <;> simp_all [DataW.TrodAll]
  | t :: ts, vs, ds, ps, hr, h, hlt => by
    obtain ⟨v, vs', d, ds', p, q, rfl, rfl, rfl, h1, h2⟩ := trodAll_cons h
    exact ⟨p, q, Below.trod hl (hr t (by simp)).1 (hr t (by simp)).2 h1 hb (fun x hx => hlt x (by simp [hx])), trodAll_stays hl hb ts vs' ds' q (fun t ht => hr t (by simp [ht])) h2 (fun x hx => hlt x (by simp [hx])), rfl⟩

/-- What a law that answers true, and leaves all as it was, has shown. -/
theorem post_true {s : ChangeSpec} {fn : Func} {W W' : World} {args : Array Value} {ds gs : List (DataW H)} {before : List MemPlace} {t : TypeId} (hl : laidOutB P = true)
    (hts : ∀ t ∈ fn.params.toList, P.readableRec t = true ∧ t < P.types.size) (hv : s.vars = []) (hr : fn.resultTypes = #[t]) (ht : P.underlying t = some .bool)
    (hW : DataW.Whole enc P fn.params.toList s.vars false W args.toList ds gs before) (hf : s.fn H (ds ++ []) = { results := [.lit (.bool true)], args := ds }) (hb : Below W.heap.size W W') :
    s.post enc P fn false true false false W args (.bool true) W' := by
  have hW' := hW
  have hlt := hW.lt
  obtain ⟨p, q, hA, hV, rfl, hfz, hnd⟩ := hW
  rw [hv] at hV
  obtain ⟨rfl, rfl⟩ : gs = [] ∧ q = [] := by
    cases gs with
    | nil => exact ⟨rfl, hV⟩
    | cons g r => exact absurd hV (by intro h; cases h)
  refine ⟨ds, [], _, [], p, [], hW', ?_, ?_, ?_, hb.frame _, fun h => by cases h⟩
  · rw [hf, hr]; exact trodAll_mk1 (shut_bool ht true)
  · rw [hf]; exact trodAll_stays hl hb _ _ _ _ hts hA (fun x hx => hlt x (by simp [hx]))
  · rw [hf, hv]; rfl
end
end Go.Proofs.Ytdabahipeepheaa.Vc
