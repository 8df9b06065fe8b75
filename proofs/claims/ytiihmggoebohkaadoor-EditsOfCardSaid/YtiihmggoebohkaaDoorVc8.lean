/- Verification conditions by symbolic execution: every operation that changes no memory is sound. -/
import Derived.Test.YtiihmggoebohkaaDoorVc7
import Derived.Laws.Tables
import Derived.WideLaws
namespace Go.Proofs.YtiihmggoebohkaaDoor.Vc
open Go Go.RowKit

section
variable {P : Program} {tab : Tab} {B : Bs} {N : Nat} {ρ : List Loc} {s : St} {a : Act} {w : World} {K : SV → Prop} {dst : Option Nat} {ty : TypeId} {pos : String} {after : Array Edge} {guard : Option (Nat × Bool)}

theorem setSeg_len : ∀ (q l : List SV) (o : Nat), (setSeg l o q).length = l.length
  | [], l, o => rfl
  | x :: r, l, o => by simp [setSeg, setSeg_len r]
def setV : List Value → Nat → List Value → List Value
  | l, _, [] => l
  | l, o, x :: r => setV (l.set o x) (o + 1) r
theorem setSeg_rel : ∀ {q : List SV} {qs : List Value}, RelL ρ q qs → ∀ {l : List SV} {vs : List Value} (o : Nat), RelL ρ l vs → RelL ρ (setSeg l o q) (setV vs o qs)
  | [], qs, h, l, vs, o, hl => by simp only [RelL] at h; subst h; simpa [setSeg, setV] using hl
  | x :: r, qs, h, l, vs, o, hl => by
    simp only [RelL] at h
    obtain ⟨v, vr, rfl, h1, h2⟩ := h
    simp only [setSeg, setV]
    exact setSeg_rel h2 (o + 1) (hl.set o h1)
theorem setV_mem : ∀ (q l : List Value) (o : Nat), (∀ x ∈ l, x.oneCell' = true) → (∀ x ∈ q, x.oneCell' = true) → ∀ x ∈ setV l o q, x.oneCell' = true
  | [], l, o, h, _ => h
  | y :: r, l, o, h, k => by
    simp only [setV]
    refine setV_mem r _ _ (fun x hx => ?_) (fun x hx => k x (by simp [hx]))
    rcases List.mem_or_eq_of_mem_set hx with h' | h'
    · exact h x h'
    · subst h'; exact k x (by simp)
theorem fold_setV : ∀ (q : List Value) (cells : Array Value) (off n : Nat), ((q.zipIdx n).foldl (fun cs (c, j) => cs.setIfInBounds (off + j) c) cells).toList = setV cells.toList (off + n) q
  | [], cells, off, n => by simp [setV]
  | x :: r, cells, off, n => by
    simp only [List.zipIdx_cons, List.foldl_cons, setV]
    rw [fold_setV r _ off (n + 1)]
    simp [Nat.add_assoc]
theorem fold_arr (q : Array Value) (cells : Array Value) (off : Nat) : (q.zipIdx.foldl (fun cs (c, j) => cs.setIfInBounds (off + j) c) cells) = (setV cells.toList off q.toList).toArray := by
  have h := fold_setV q.toList cells off 0
  rw [← Array.foldl_toList, Array.toList_zipIdx]
  rw [Nat.add_zero] at h
  rw [← h]

/-- The parts go where the model puts them. -/
theorem fillS_sound {s : St} (H : Holds B N ρ s a w) {place : Nat → Option (Nat × Nat × Bool)} {pl : Nat → Option (Nat × Nat)} (hp : ∀ i o n g, place i = some (o, n, g) → pl i = some (o, n) ∧ (g = false → n = 1)) :
    ∀ (parts : List (Nat × Operand)) (l : List SV) (K : List SV → Prop), fillS place s parts l K → ∀ (vs : List Value), RelL ρ l vs → (∀ x ∈ vs, x.oneCell' = true) →
      ∃ l' us, K l' ∧ RelL ρ l' us ∧ (∀ x ∈ us, x.oneCell' = true) ∧ Instr.fill pl vs.toArray (parts.map fun (i, x) => (i, a.eval x)) = some us.toArray
  | [], l, K, h, vs, hr, h1 => by
    simp only [fillS, frc_eq] at h
    exact ⟨l, vs, h, hr, h1, by simp [Instr.fill]⟩
  | (i, x) :: r, l, K, h, vs, hr, h1 => by
    simp only [fillS] at h
    have hlen := hr.length
    split at h
    · exact h.elim
    · rename_i o n g hpl
      obtain ⟨hpl', hg⟩ := hp i o n g hpl
      split at h
      · split at h
        · rename_i q he
          have hx := H.ev x
          rw [he] at hx
          obtain ⟨qs, hv, hq, hq1⟩ := rel_a hx
          cases hb : (Nat.beq q.length n && Nat.ble (o + n) l.length) with
          | false => rw [hb] at h; exact h.elim
          | true =>
            rw [hb] at h
            simp only [Bool.and_eq_true, Nat.beq_eq, Nat.ble_eq] at hb
            have hql := hq.length
            obtain ⟨l', us, k1, k2, k3, k4⟩ := fillS_sound H hp r _ K h (setV vs o qs) (setSeg_rel hq o hr) (setV_mem _ _ _ h1 hq1)
            refine ⟨l', us, k1, k2, k3, ?_⟩
            simp only [List.map_cons, Instr.fill, hpl', hv, Value.cells, List.size_toArray]
            rw [if_neg (by simp only [Bool.or_eq_true, decide_eq_true_eq]; omega), fold_arr]
            exact k4
        · exact h.elim
      · have hn := hg rfl
        subst hn
        cases hb : (Nat.beq 1 1 && Nat.ble (o + 1) l.length && (ev s x).one) with
        | false => rw [hb] at h; exact h.elim
        | true =>
          rw [hb] at h
          simp only [Bool.and_eq_true, Nat.beq_eq, Nat.ble_eq, true_and] at hb
          have h1x := (H.ev x).one hb.2
          obtain ⟨l', us, k1, k2, k3, k4⟩ := fillS_sound H hp r _ K h (vs.set o (a.eval x)) (hr.set o (H.ev x)) (fun y hy => by
            rcases List.mem_or_eq_of_mem_set hy with h' | h'
            · exact h1 y h'
            · subst h'; exact h1x)
          refine ⟨l', us, k1, k2, k3, ?_⟩
          have hcell : (a.eval x).cells = #[a.eval x] := by
            cases hxx : a.eval x <;> first | rfl | (rw [hxx] at h1x; cases h1x)
          simp only [List.map_cons, Instr.fill, hpl', hcell]
          rw [if_neg (by simp; omega), fold_arr]
          exact k4

theorem places_of (ht : Tab.ok P tab) : ∀ (gs : List Field), allT tab (gs.map fun f => (f.offset, f.type)) = true → ∃ pls : List (Nat × Nat), gs.mapM (fun f => (P.info? f.type).map fun i => (f.offset, i.size)) = some pls ∧
    ∀ (i o ty : Nat) (tj : TI), gs[i]?.map (fun f => (f.offset, f.type)) = some (o, ty) → tget tab ty = some tj → pls[i]? = some (o, tj.size)
  | [], _ => ⟨[], by simp, fun i o ty tj h => by simp at h⟩
  | f :: r, h => by
    simp only [List.map_cons, allT] at h
    split at h
    · rename_i tj hj
      obtain ⟨pls, h1, h2⟩ := places_of ht r h
      obtain ⟨j, z, k1, _, _, k4, _⟩ := (ht _ _ hj).info
      refine ⟨(f.offset, tj.size) :: pls, by simp [List.mapM_cons, k1, h1, k4], fun i o ty tj' hi hty => ?_⟩
      cases i with
      | zero =>
        simp at hi
        obtain ⟨rfl, rfl⟩ := hi
        rw [hj] at hty; cases hty
        simp
      | succ i => simpa using h2 i o ty tj' (by simpa using hi) hty
    · cases h

theorem s_build (ht : Tab.ok P tab) (H : Holds B N ρ s a w) {T : Nat} {parts : Array (Nat × Operand)} (h : vcVal P tab s ⟨dst, .build T parts, ty, pos, after, guard⟩ K) : Good P ρ a w ⟨dst, .build T parts, ty, pos, after, guard⟩ K := by
  simp only [vcVal] at h
  split at h
  · rename_i ti hT
    obtain ⟨desc, hu, hd⟩ := tab_und ht hT
    obtain ⟨z, hz, hzl⟩ := tab_zero ht hT w
    have hone := (ht T ti hT).one
    have hzv : RelL ρ (ti.zero.map .v) ti.zero := (RelL.plain _ _).2 rfl
    have hzc : z.cells = ti.zero.toArray := by rw [← hzl]
    have fin : ∀ (pl : Nat → Option (Nat × Nat)) (place : Nat → Option (Nat × Nat × Bool)), (∀ i o n g, place i = some (o, n, g) → pl i = some (o, n) ∧ (g = false → n = 1)) →
        fillS place s parts.toList (ti.zero.map .v) (fun l => K (.a l)) → (∀ cs, Instr.fill pl z.cells (parts.map fun (i, x) => (i, a.eval x)).toList = some cs → (Instr.build T (parts.map fun (i, x) => (i, a.eval x))).run P w = .ok (.agg cs) w) →
        Good P ρ a w ⟨dst, .build T parts, ty, pos, after, guard⟩ K := by
      intro pl place hp hf hrun
      obtain ⟨l', us, hk, hr, h1, hfill⟩ := fillS_sound H hp parts.toList _ _ hf ti.zero hzv hone
      refine good_val (q := Instr.build T (parts.map fun (i, x) => (i, a.eval x))) rfl (hrun us.toArray ?_) ?_ hk
      · rw [hzc]
        simpa using hfill
      · simp only [Rel]; exact ⟨us, rfl, hr, h1⟩
    split at h
    · rename_i fs hfs
      rw [hfs] at hd
      obtain ⟨g, rfl, hg⟩ := hd
      cases hall : allT tab fs with
      | false => rw [hall] at h; exact h.elim
      | true =>
        rw [hall] at h
        obtain ⟨pls, h1, h2⟩ := places_of ht g.toList (by rw [hg]; exact hall)
        have h3 := run_places (P := P) w _ _ h1
        refine fin (pls.toArray[·]?) _ ?_ h ?_
        · intro i o n gg hi
          split at hi
          · rename_i off ty' hn
            split at hi
            · rename_i tj hj
              simp at hi
              obtain ⟨rfl, rfl, rfl⟩ := hi
              rw [nthP_eq, ← hg, List.getElem?_map] at hn
              exact ⟨by simpa using h2 i off ty' tj hn hj, fun e => (ht _ _ hj).one1 e⟩
            · cases hi
          · cases hi
        · intro cs hcs
          have h5 : Instr.fill (fun x => pls[x]?) z.cells (parts.map fun (i, x) => (i, a.eval x)).toList = some cs := by simpa using hcs
          simp [Instr.build, hz, run_underlying hu, Array.mapM_eq_mapM_toList, h3]
          simp at h5
          rw [h5]
          rfl
    · rename_i n e hde
      rw [hde] at hd
      simp only [TD.ok] at hd
      subst hd
      split at h
      · rename_i te he
        have hsz := tab_size ht he w
        refine fin (fun i => some (i * te.size, te.size)) _ ?_ h ?_
        · intro i o n gg hi
          simp at hi
          obtain ⟨rfl, rfl, rfl⟩ := hi
          exact ⟨rfl, fun e => (ht _ _ he).one1 e⟩
        · intro cs hcs
          simp at hcs
          simp [Instr.build, hz, run_underlying hu, hsz, hcs]
      · exact h.elim
    · exact h.elim
  · exact h.elim

theorem s_convert (ht : Tab.ok P tab) (H : Holds B N ρ s a w) {S T : Nat} {x : Operand} (h : vcVal P tab s ⟨dst, .convert S T x, ty, pos, after, guard⟩ K) : Good P ρ a w ⟨dst, .convert S T x, ty, pos, after, guard⟩ K := by
  simp only [vcVal] at h
  have hx := H.ev x
  split at h
  · rename_i tj ti k0 n hS hT he
    rw [he] at hx
    have hv := rel_v hx
    split at h
    · rename_i k hk
      obtain ⟨desc, hu, hd⟩ := tab_und ht hT
      obtain ⟨desc', hu', hd'⟩ := tab_und ht hS
      rw [hk] at hd
      simp only [TD.ok] at hd
      subst hd
      obtain ⟨e, hq⟩ := rng_wrap h
      refine good_val (q := convert S T (a.eval x)) rfl (v := .int k n) ?_ (by simp only [Rel]) hq
      rw [hv]
      simp only [convert, Sem.run_bind, run_underlying hu', run_underlying hu, Result.andThen_ok]
      simp [Conv.intToInt, e]
    · exact h B N ρ a w H
  · exact h B N ρ a w H

theorem s_len (ht : Tab.ok P tab) (H : Holds B N ρ s a w) {args : Array Operand} {tys : Array TypeId} (h : vcVal P tab s ⟨dst, .call ⟨.builtin .len, args, tys⟩, ty, pos, after, guard⟩ K) : Good P ρ a w ⟨dst, .call ⟨.builtin .len, args, tys⟩, ty, pos, after, guard⟩ K := by
  simp only [vcVal] at h
  split at h
  · rename_i x T hargs htys
    have ea : args = #[x] := by cases args; simpa using hargs
    have et : tys = #[T] := by cases tys; simpa using htys
    subst ea et
    have hx := H.ev x
    split at h
    · exact h B N ρ a w H
    · rename_i ti hT
      obtain ⟨desc, hu, hd⟩ := tab_und ht hT
      have fin : ∀ (n : Nat), (Builtin.len_ #[T] ty #[a.eval x]).run P w = .ok (.int .i64 n) w → K (.v (.int .i64 n)) → Good P ρ a w ⟨dst, .call ⟨.builtin .len, #[x], #[T]⟩, ty, pos, after, guard⟩ K := by
        intro n hr hk
        refine ⟨.int .i64 n, _, ?_, by simp only [Rel], hk⟩
        simp [execOp, resolve, invoke, builtin, hr]
      split at h
      · rename_i e hd0
        rw [hd0] at hd
        simp only [TD.ok] at hd
        subst hd
        have fs : ∀ (A : Option Addr) (n k : Nat), a.eval x = .slice A n k → K (.v (.int .i64 n)) → Good P ρ a w ⟨dst, .call ⟨.builtin .len, #[x], #[T]⟩, ty, pos, after, guard⟩ K := fun A n k hv hk =>
          fin n (by rw [hv]; simp [Builtin.len_, run_underlying hu, goInt]) hk
        split at h
        · rename_i c i n he
          rw [he] at hx
          obtain ⟨L, A, cap, _, hv, _⟩ := rel_s hx
          exact fs A n cap hv h
        · rename_i c he
          rw [he] at hx
          obtain ⟨L, hL, hv⟩ := rel_o hx
          have hch := H.mem.ch c
          split at h
          · rename_i _ sz n _ hm
            rw [hm] at hch
            obtain ⟨_, _, A, cap, hv', _⟩ := own_form hch hL
            exact fs A n cap (hv.trans hv') h
          · exact h.elim
        · rename_i A n k he
          rw [he] at hx
          exact fs A n k (rel_v hx) h
        · exact h B N ρ a w H
      · rename_i hd0
        rw [hd0] at hd
        simp only [TD.ok] at hd
        subst hd
        split at h
        · rename_i b he
          rw [he] at hx
          exact fin b.size (by rw [rel_v hx]; simp [Builtin.len_, run_underlying hu, goInt]) h
        · exact h B N ρ a w H
      · exact h B N ρ a w H
  · exact h B N ρ a w H

theorem s_min (H : Holds B N ρ s a w) {args : Array Operand} {tys : Array TypeId} (h : vcVal P tab s ⟨dst, .call ⟨.builtin .min, args, tys⟩, ty, pos, after, guard⟩ K) : Good P ρ a w ⟨dst, .call ⟨.builtin .min, args, tys⟩, ty, pos, after, guard⟩ K := by
  simp only [vcVal] at h
  split at h
  · rename_i x y hargs
    have ea : args = #[x, y] := by cases args; simpa using hargs
    subst ea
    have hx := H.ev x
    have hy := H.ev y
    split at h
    · rename_i k p k2 q he he2
      rw [he] at hx
      rw [he2] at hy
      have e : (if q < p then q else p) = min p q := by omega
      refine ⟨.int k (min p q), _, ?_, by simp only [Rel], h⟩
      simp [execOp, resolve, invoke, builtin, Builtin.min_, rel_v hx, rel_v hy, Builtin.min2, e]
    · exact h B N ρ a w H
  · exact h B N ρ a w H
theorem s_max (H : Holds B N ρ s a w) {args : Array Operand} {tys : Array TypeId} (h : vcVal P tab s ⟨dst, .call ⟨.builtin .max, args, tys⟩, ty, pos, after, guard⟩ K) : Good P ρ a w ⟨dst, .call ⟨.builtin .max, args, tys⟩, ty, pos, after, guard⟩ K := by
  simp only [vcVal] at h
  split at h
  · rename_i x y hargs
    have ea : args = #[x, y] := by cases args; simpa using hargs
    subst ea
    have hx := H.ev x
    have hy := H.ev y
    split at h
    · rename_i k p k2 q he he2
      rw [he] at hx
      rw [he2] at hy
      have e : (if p < q then q else p) = max p q := by omega
      refine ⟨.int k (max p q), _, ?_, by simp only [Rel], h⟩
      simp [execOp, resolve, invoke, builtin, Builtin.max_, rel_v hx, rel_v hy, Builtin.max2, e]
    · exact h B N ρ a w H
  · exact h B N ρ a w H

theorem s_unOp (H : Holds B N ρ s a w) {op : UnOp} {T : Nat} {x : Operand} (h : vcVal P tab s ⟨dst, .unOp op T x, ty, pos, after, guard⟩ K) : Good P ρ a w ⟨dst, .unOp op T x, ty, pos, after, guard⟩ K := by
  simp only [vcVal] at h
  have hx := H.ev x
  split at h
  · rename_i b he
    rw [he] at hx
    exact good_val (q := Op.unary .not (a.eval x)) rfl (v := .bool (!b)) (by rw [rel_v hx]; simp [Op.unary]) (by simp only [Rel]) h
  · rename_i k n he
    rw [he] at hx
    obtain ⟨e, hq⟩ := rng_wrap h
    exact good_val (q := Op.unary .neg (a.eval x)) rfl (v := .int k (0 - n)) (by rw [rel_v hx]; simp only [Op.unary, Op.intArith, e]; simp) (by simp only [Rel]) hq
  · exact h B N ρ a w H

theorem s_binOp (ht : Tab.ok P tab) (H : Holds B N ρ s a w) {op : BinOp} {T T2 : Nat} {x y : Operand} (h : vcVal P tab s ⟨dst, .binOp op T x y T2, ty, pos, after, guard⟩ K) : Good P ρ a w ⟨dst, .binOp op T x y T2, ty, pos, after, guard⟩ K := by
  simp only [vcVal] at h
  have hx := H.ev x
  have hy := H.ev y
  split at h
  · rename_i k p k2 q he he2
    rw [he] at hx
    rw [he2] at hy
    cases hb : kB k k2 with
    | false => rw [hb] at h; exact h.elim
    | true =>
      rw [hb] at h
      have := kB_eq hb
      subst this
      obtain ⟨v, hr0, hk⟩ := vcInt_sound (P := P) T x y h
      have hr := hr0 w
      exact good_val (q := do eqGuard op T x y (a.eval x) (a.eval y); binOp op T (a.eval x) (a.eval y)) rfl (v := v) (by rw [rel_v hx, rel_v hy]; exact hr) (by simp only [Rel]) hk
  · rename_i p q he he2
    rw [he] at hx
    rw [he2] at hy
    split at h
    · obtain ⟨hle, hk⟩ := h
      refine good_val (q := do eqGuard .add T x y (a.eval x) (a.eval y); binOp .add T (a.eval x) (a.eval y)) rfl (v := .string (p ++ q)) ?_ (by simp only [Rel]) hk
      rw [rel_v hx, rel_v hy]
      have : ¬ (((p.size + q.size : Nat) : Int) > 9223372036854775807) := by omega
      simp only [eqGuard_at_string, binOp, Op.stringOp, IntKind.max_i64, if_neg this]
      simp
    · refine good_val (q := do eqGuard .eql T x y (a.eval x) (a.eval y); binOp .eql T (a.eval x) (a.eval y)) rfl (v := .bool (p.toList == q.toList)) ?_ (by simp only [Rel]) h
      rw [rel_v hx, rel_v hy]
      simp [eqGuard_at_string, binOp, Op.stringOp]
    · refine good_val (q := do eqGuard .neq T x y (a.eval x) (a.eval y); binOp .neq T (a.eval x) (a.eval y)) rfl (v := .bool (!(p.toList == q.toList))) ?_ (by simp only [Rel]) h
      rw [rel_v hx, rel_v hy]
      simp [eqGuard_at_string, binOp, Op.stringOp]
    · exact h B N ρ a w H
  · rename_i tt p he he2
    rw [he] at hx
    rw [he2] at hy
    split at h
    · rename_i i hT
      obtain ⟨desc, hu, hd⟩ := tab_und ht hT
      split at h
      · rename_i hd0
        rw [hd0] at hd
        obtain ⟨ms, rfl⟩ := hd
        have hm : P.underlying T = some (.interface (P.methodsAt T)) := by rw [hu]; simp [Program.methodsAt, hu]
        split at h
        · refine good_val (q := do eqGuard .eql T x y (a.eval x) (a.eval y); binOp .eql T (a.eval x) (a.eval y)) rfl (v := .bool false) ?_ (by simp only [Rel]) h
          rw [rel_v hx, rel_v hy]
          simp [eqGuard_at_iface, run_eql_held_nil w T _ _ hm]
        · refine good_val (q := do eqGuard .neq T x y (a.eval x) (a.eval y); binOp .neq T (a.eval x) (a.eval y)) rfl (v := .bool true) ?_ (by simp only [Rel]) h
          rw [rel_v hx, rel_v hy]
          simp [eqGuard_at_iface, run_neq_held_nil w T _ _ hm]
        · exact h.elim
      · exact h.elim
    · exact h.elim
  · rename_i he he2
    rw [he] at hx
    rw [he2] at hy
    split at h
    · rename_i c
      split at h
      · rename_i i hT
        obtain ⟨desc, hu, hd⟩ := tab_und ht hT
        split at h
        · rename_i hd0
          rw [hd0] at hd
          obtain ⟨ms, rfl⟩ := hd
          have hm : P.underlying T = some (.interface (P.methodsAt T)) := by rw [hu]; simp [Program.methodsAt, hu]
          split at h
          · refine good_val (q := do eqGuard .eql T x (.const c) (a.eval x) (a.eval (.const c)); binOp .eql T (a.eval x) (a.eval (.const c))) rfl (v := .bool true) ?_ (by simp only [Rel]) h
            rw [rel_v hx, rel_v hy]
            simp [eqGuard_nil_constR, run_eql_nil_nil w T hm]
          · refine good_val (q := do eqGuard .neq T x (.const c) (a.eval x) (a.eval (.const c)); binOp .neq T (a.eval x) (a.eval (.const c))) rfl (v := .bool false) ?_ (by simp only [Rel]) h
            rw [rel_v hx, rel_v hy]
            simp [eqGuard_nil_constR, run_neq_nil_nil w T hm]
          · exact h.elim
        · exact h.elim
      · exact h.elim
    · exact h.elim
  · exact h B N ρ a w H

/-- EVERY OPERATION THAT CHANGES NO MEMORY. -/
theorem vcVal_sound (ht : Tab.ok P tab) (H : Holds B N ρ s a w) {o : Oper} (h : vcVal P tab s o K) : Good P ρ a w o K := by
  obtain ⟨dst, op, ty, pos, after, guard⟩ := o
  cases op with
  | move x => exact ⟨_, _, by simp [execOp], H.ev x, h⟩
  | assign x => exact ⟨_, _, by simp [execOp], H.ev x, h⟩
  | pick c x y =>
    simp only [vcVal] at h
    have hc := H.ev c
    split at h
    · rename_i b he
      rw [he] at hc
      cases b with
      | true => exact ⟨_, _, by simp [execOp, rel_v hc, asBool], H.ev x, h⟩
      | false => exact ⟨_, _, by simp [execOp, rel_v hc, asBool], H.ev y, h⟩
    · exact h.elim
  | binOp op T x y T2 => exact s_binOp ht H h
  | unOp op T x => exact s_unOp H h
  | fieldAddr T x k => exact s_fieldAddr ht H h
  | indexAddr T x y => exact s_indexAddr ht H h
  | load T x => exact s_load ht H h
  | field T x k => exact s_field ht H h
  | index T x y => exact s_index ht H h
  | slice T x lo hi mx => exact s_slice ht H h
  | extract x k => exact s_extract H h
  | makeInterface T x => exact s_makeInterface ht H h
  | makeFunc fn fs cs => exact s_makeFunc H h
  | nilCheck x => exact s_nilCheck H h
  | build T parts => exact s_build ht H h
  | convert S T x => exact s_convert ht H h
  | call c =>
    obtain ⟨callee, args, tys⟩ := c
    cases callee with
    | value f => exact h B N ρ a w H
    | invoke r m => exact h B N ρ a w H
    | builtin b =>
      cases b with
      | len => exact s_len ht H h
      | min => exact s_min H h
      | max => exact s_max H h
      | _ => exact h B N ρ a w H
  | _ => exact h B N ρ a w H
end
end Go.Proofs.YtiihmggoebohkaaDoor.Vc
