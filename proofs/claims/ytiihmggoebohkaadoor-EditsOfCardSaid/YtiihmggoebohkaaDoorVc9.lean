/- Verification conditions by symbolic execution: operations that make or write memory, and calls. -/
import Derived.Test.YtiihmggoebohkaaDoorVc8
namespace Go.Proofs.YtiihmggoebohkaaDoor.Vc
open Go Go.RowKit

/-- What stays the same in a walk. -/
structure Cx where
  P : Program
  tab : Tab
  B : Bs
  N : Nat
  n0 : Nat

/-- A function that has a body of its own. -/
def Fun (P : Program) (g : Nat) : Prop := ∃ fn, P.funcs[g]? = some fn ∧ (fn.name == "runtime.NumGoroutine") = false ∧ fn.body.isNone = false

/-- A call, told of symbolic values. -/
structure CallP (Γ : Cx) (g : Nat) (svs : List SV) (s : St) (K : SV → St → Prop) : Prop where
  fn : Fun Γ.P g
  run : ∀ (ρ : List Loc) (a : Act) (w : World) (vs : List Value), Holds Γ.B Γ.N ρ s a w → RelL ρ svs vs →
    Calls Γ.P g vs.toArray w (fun e w' => ∃ v x s' ρ', e = .returned v ∧ Ext ρ ρ' ∧ Rel ρ' x v ∧ K x s' ∧ Holds Γ.B Γ.N ρ' s' a w')

/-- What is left to its user: an operation of which nothing is known here, that may change memory. -/
def ExtO (Γ : Cx) (s : St) (o : Oper) (K : St → Prop) : Prop :=
  ∀ (ρ : List Loc) (a : Act) (w : World) (Q : Exit → Act → World → Prop), Holds Γ.B Γ.N ρ s a w → o.wp Γ.P a w (fun a' w' => ∃ s' ρ', K s' ∧ Holds Γ.B Γ.N ρ' s' a' w') Q

def nthL : List (List SV) → Nat → List SV
  | [], _ => []
  | x :: _, 0 => x
  | _ :: r, n + 1 => nthL r n
def putN (N : Nat) (s : St) (d : Option Nat) (ch : Ch) (x : Nat → SV) (K : St → Prop) : Prop :=
  match s with
  | ⟨fr, mem, nx⟩ => fch ch fun ch => fnat (nx + 1) fun nx1 => put N ⟨fr, (nx, ch) :: mem, nx1⟩ d (x nx) K
/-- The cells of the parts of a slice that is written out. -/
def litS (s : St) (sz : Nat) : Nat → List (Nat × Operand) → List (List SV) → (List (List SV) → Prop) → Prop
  | _, [], l, K => K l.reverse
  | k, (i, x) :: r, l, K => bif Nat.beq i k then (match ev s x with
    | .a q => bif Nat.beq q.length sz then litS s sz (k + 1) r (q :: l) K else False
    | y => bif Nat.beq sz 1 && y.one then litS s sz (k + 1) r ([y] :: l) K else False) else False

def srcOf (m : Mem) (sz : Nat) (x : SV) (K : Nat → Nat → (Nat → List SV) → Prop) : Prop :=   -- where from, how many, what
  match x with
  | .s c i n => match mget m c with
    | .ro z q f => bif Nat.beq z sz then i + n ≤ q ∧ K i n f else False
    | .own _ z q f => bif Nat.beq z sz then i + n ≤ q ∧ K i n f else False
    | _ => False
  | .o c => match mget m c with
    | .own _ z n f => bif Nat.beq z sz then K 0 n f else False
    | _ => False
  | .v (.slice none 0 0) => K 0 0 fun _ => []
  | _ => False

def vcOp (Γ : Cx) (s : St) (o : Oper) (K : St → Prop) : Prop :=
  match o.op with
  | .alloc T => match tget Γ.tab T with
    | some ti => putN Γ.N s o.dst (.box T (ti.zero.map .v)) (fun c => .p c 0 0) K
    | none => False
  | .box T x => match ev s x with
    | .a q => putN Γ.N s o.dst (.box T q) (fun c => .p c 0 0) K
    | y => bif y.one then putN Γ.N s o.dst (.box T [y]) (fun c => .p c 0 0) K else False
  | .store T x y => match o.dst, ev s x with
    | none, .p c i d => match tget Γ.tab T with
      | none => False
      | some ti =>
        let wr (q : List SV) : Prop := match mget s.mem c with
          | .box t l => bif Nat.beq i 0 && Nat.ble (d + q.length) l.length then frc (setSeg l d q) fun l' => (match s with | ⟨fr, mem, nx⟩ => K ⟨fr, (c, .box t l') :: mem, nx⟩) else False
          | .own e sz n f => i < n ∧ (bif Nat.ble (d + q.length) sz then ∃ f' : Nat → List SV, f' i = setSeg (f i) d q ∧ (∀ j, j < n → j ≠ i → f' j = f j) ∧ (match s with | ⟨fr, mem, nx⟩ => K ⟨fr, (c, .own e sz n f') :: mem, nx⟩) else False)
          | _ => False
        match ev s y with
        | .a q => bif Nat.beq q.length ti.size then wr q else False
        | z => bif Nat.beq ti.size 1 && z.one then wr [z] else False
    | _, _ => ExtO Γ s o K
  | .buildSlice T n parts => match tget Γ.tab T with
    | some ti => match ti.d with
      | .sl e => match tget Γ.tab e with
        | some te => bif Nat.beq parts.toList.length n && Nat.ble (n * te.size) 65536 && Nat.blt 0 te.size then litS s te.size 0 parts.toList [] fun l => putN Γ.N s o.dst (.own e te.size n (nthL l)) .o K else False
        | none => False
      | _ => False
    | none => False
  | .makeSlice T l c => match ev s l, ev s c with
    | .v (.int .i64 n), .v (.int .i64 m) => match tget Γ.tab T with
      | some ti => match ti.d with
        | .sl e => match tget Γ.tab e with
          | some te => (n = m ∧ 0 ≤ n ∧ te.bytes * n.toNat ≤ 140737488355328 ∧ n ≤ 9223372036854775807) ∧ putN Γ.N s o.dst (.own e te.size n.toNat (fun _ => te.zero.map .v)) .o K
          | none => False
        | _ => False
      | none => False
    | _, _ => ExtO Γ s o K
  | .call c => match c.callee with
    | .value f => match ev s f with
      | .f g caps => CallP Γ g (c.args.toList.map (ev s) ++ caps) s fun x s' => put Γ.N s' o.dst x K
      | _ => ExtO Γ s o K
    | .builtin .append => match c.args.toList, c.argTypes.toList with
      | [x, y], [T, T'] => bif Nat.beq T T' then match tget Γ.tab T with
        | some ti => match ti.d with
          | .sl e => match tget Γ.tab e with
            | some te =>
              let app (n : Nat) (f : Nat → List SV) (s' : St) : Prop := srcOf s.mem te.size (ev s y) fun i m g =>
                ((n + m) * te.bytes ≤ 140737488355328 ∧ n + m ≤ 9223372036854775807) ∧ ∃ f' : Nat → List SV, (∀ j, j < n → f' j = f j) ∧ (∀ j, j < m → f' (n + j) = g (i + j)) ∧ putN Γ.N s' o.dst (.own e te.size (n + m) f') .o K
              bif Nat.blt 0 te.size then (match ev s x with
              | .o c => match mget s.mem c with
                | .own e' sz n f => bif Nat.beq e' e && Nat.beq sz te.size then app n f (match s with | ⟨fr, mem, nx⟩ => ⟨fr, (c, .non) :: mem, nx⟩) else False
                | _ => False
              | .v (.slice none 0 0) => app 0 (fun _ => []) s
              | _ => ExtO Γ s o K) else False
            | none => False
          | _ => ExtO Γ s o K
        | none => False else ExtO Γ s o K
      | _, _ => ExtO Γ s o K
    | .builtin .len => vcVal Γ.P Γ.tab s o fun x => put Γ.N s o.dst x K
    | .builtin .min => vcVal Γ.P Γ.tab s o fun x => put Γ.N s o.dst x K
    | .builtin .max => vcVal Γ.P Γ.tab s o fun x => put Γ.N s o.dst x K
    | _ => ExtO Γ s o K
  | .mapUpdate .. => ExtO Γ s o K
  | .lookup .. => ExtO Γ s o K
  | .makeMap .. => ExtO Γ s o K
  | .range .. => ExtO Γ s o K
  | .next .. => ExtO Γ s o K
  | .insert .. => ExtO Γ s o K
  | .convert S T x => match tget Γ.tab S, tget Γ.tab T, ev s x with
    | some _, some ti, .v (.int _ n) => match ti.d with
      | .int k => rng k n (put Γ.N s o.dst (.v (.int k n)) K)
      | _ => ExtO Γ s o K
    | _, _, _ => ExtO Γ s o K
  | _ => vcVal Γ.P Γ.tab s o fun x => put Γ.N s o.dst x K

section
variable {Γ : Cx} {ρ : List Loc} {s : St} {a : Act} {w : World} {K : St → Prop}
abbrev After (Γ : Cx) (K : St → Prop) : Act → World → Prop := fun a' w' => ∃ s' ρ', K s' ∧ Holds Γ.B Γ.N ρ' s' a' w'

theorem last_get (ρ : List Loc) (L : Loc) : (ρ ++ [L])[ρ.length]? = some L := by simp
theorem new_sound (H : Holds Γ.B Γ.N ρ s a w) {d : Option Nat} {ch : Ch} {x : Nat → SV} (hp : putN Γ.N s d ch x K) {w' : World} (hb : Below w.heap.size w w') (L : Loc) (hc : ChSat Γ.B (ρ ++ [L]) w' ρ.length ch)
    (ho : ∀ b, Occ (ρ ++ [L]) ρ.length ch b → w.heap.size ≤ b) {v : Value} (hx : Rel (ρ ++ [L]) (x ρ.length) v) : After Γ K (a.put d v) w' := by
  obtain ⟨fr, mem, nx⟩ := s
  have e := Ext.app ρ [L]
  have hm := H.mem.below hb
  have hm' : MSat Γ.B (ρ ++ [L]) ((ρ.length, ch) :: mem) w' := hm.add L ch hc (fun c b _ o o' => by
    have h1 := H.mem.occ_lt o
    have h2 := ho b o'
    omega) (fun b o => .inl (Nat.le_trans H.mem.frm.size (ho b o)))
  have hnx : ρ.length = nx := H.nx
  have H' : Holds Γ.B Γ.N (ρ ++ [L]) ⟨fr, (nx, ch) :: mem, nx + 1⟩ a w' := ⟨by simp [hnx], fun t => (H.fr t).mono e, H.size, H.dfr, by rw [← hnx]; exact hm'⟩
  rw [hnx] at hx
  simp only [putN, fch_eq, fnat_eq] at hp
  obtain ⟨s', hk, h', _, _⟩ := put_sound H' hx hp
  exact ⟨s', _, hk, h'⟩

theorem wp_value {o : Oper} {v : Value} {w' : World} {Q : Exit → Act → World → Prop} {next : Act → World → Prop} (hr : (execOp a.eval o).run Γ.P w = .ok (.value v) w') (h : next (a.put o.dst v) w') : o.wp Γ.P a w next Q := by
  unfold Oper.wp; rw [hr]; exact h

theorem e_alloc (ht : Tab.ok Γ.P Γ.tab) (H : Holds Γ.B Γ.N ρ s a w) {dst : Option Nat} {T : Nat} {ty : TypeId} {pos : String} {after : Array Edge} {guard : Option (Nat × Bool)} {Q : Exit → Act → World → Prop}
    (h : vcOp Γ s ⟨dst, .alloc T, ty, pos, after, guard⟩ K) : Oper.wp Γ.P ⟨dst, .alloc T, ty, pos, after, guard⟩ a w (After Γ K) Q := by
  simp only [vcOp] at h
  split at h
  · rename_i ti hT
    obtain ⟨z, hz, hzl⟩ := tab_zero ht hT w
    have hone := (ht T ti hT).one
    have hzc : z.cells = ti.zero.toArray := by rw [← hzl]
    refine wp_value (v := .pointer (some ⟨w.heap.size, 0, none⟩)) (w' := w.alloc (.cells ti.zero.toArray T)) ?_ ?_
    · simp [execOp, Instr.alloc, hz, newVar, newRow, hzc]
    · refine new_sound H h ((Below.refl _ _).alloc (Nat.le_refl _) _) ⟨w.heap.size, 0, ti.zero.length, .nilFunc⟩ ?_ ?_ ?_
      · refine ⟨_, ti.zero, last_get _ _, rfl, by simp, heap_alloc_new w _, (RelL.plain _ _).2 rfl, hone, .inl H.mem.frm.size⟩
      · rintro b ⟨L, hL, rfl⟩
        rw [last_get] at hL; cases hL; exact Nat.le_refl _
      · simp only [Rel]; exact ⟨_, last_get _ _, by simp⟩
  · exact h.elim

theorem e_box (H : Holds Γ.B Γ.N ρ s a w) {dst : Option Nat} {T : Nat} {x : Operand} {ty : TypeId} {pos : String} {after : Array Edge} {guard : Option (Nat × Bool)} {Q : Exit → Act → World → Prop}
    (h : vcOp Γ s ⟨dst, .box T x, ty, pos, after, guard⟩ K) : Oper.wp Γ.P ⟨dst, .box T x, ty, pos, after, guard⟩ a w (After Γ K) Q := by
  simp only [vcOp] at h
  have hx := H.ev x
  have fin : ∀ (q : List SV) (vs : List Value), (a.eval x).cells = vs.toArray → RelL ρ q vs → (∀ y ∈ vs, y.oneCell' = true) → putN Γ.N s dst (.box T q) (fun c => .p c 0 0) K → Oper.wp Γ.P ⟨dst, .box T x, ty, pos, after, guard⟩ a w (After Γ K) Q := by
    intro q vs hc hr h1 h
    refine wp_value (v := .pointer (some ⟨w.heap.size, 0, none⟩)) (w' := w.alloc (.cells vs.toArray T)) ?_ ?_
    · simp [execOp, Instr.box, newVar, newRow, hc]
    · refine new_sound H h ((Below.refl _ _).alloc (Nat.le_refl _) _) ⟨w.heap.size, 0, q.length, .nilFunc⟩ ?_ ?_ ?_
      · refine ⟨_, vs, last_get _ _, rfl, rfl, heap_alloc_new w _, RelL.mono (Ext.app _ _) _ _ hr, h1, .inl H.mem.frm.size⟩
      · rintro b ⟨L, hL, rfl⟩
        rw [last_get] at hL; cases hL; exact Nat.le_refl _
      · simp only [Rel]; exact ⟨_, last_get _ _, by simp⟩
  split at h
  · rename_i q he
    rw [he] at hx
    obtain ⟨vs, hv, hr, h1⟩ := rel_a hx
    exact fin q vs (by rw [hv]; rfl) hr h1 h
  · cases hb : (ev s x).one with
    | false => rw [hb] at h; exact h.elim
    | true =>
      rw [hb] at h
      have h1 := hx.one hb
      refine fin [ev s x] [a.eval x] ?_ ?_ ?_ h
      · cases hxx : a.eval x <;> first | rfl | (rw [hxx] at h1; cases h1)
      · simp only [RelL]; exact ⟨_, _, rfl, hx, rfl⟩
      · intro y hy; simp at hy; subst hy; exact h1
end
end Go.Proofs.YtiihmggoebohkaaDoor.Vc
