/- Verification conditions by symbolic execution: operations that change no memory. -/
import Derived.Test.YtiihmggoebohkaaDoorVc2
namespace Go.Proofs.YtiihmggoebohkaaDoor.Vc
open Go Go.RowKit

inductive TD where
  | sl (e : Nat)
  | st (fs : List (Nat × Nat))
  | arr (n e : Nat)
  | str
  | int (k : IntKind)
  | ifc
  | sc
def TD.agg : TD → Bool
  | .st _ => true
  | .arr .. => true
  | _ => false
structure TI where
  d : TD
  size : Nat
  bytes : Nat
  zero : List Value
abbrev Tab := List (Nat × TI)
def tget : Tab → Nat → Option TI
  | [], _ => none
  | (m, x) :: r, n => bif Nat.beq m n then some x else tget r n

theorem tget_cons {m : Nat} {x : TI} {r : Tab} {n : Nat} {i : TI} (h : tget ((m, x) :: r) n = some i) : (n = m ∧ i = x) ∨ tget r n = some i := by
  simp only [tget] at h
  cases e : Nat.beq m n with
  | true => rw [e] at h; cases h; exact .inl ⟨(Nat.eq_of_beq_eq_true e).symm, rfl⟩
  | false => rw [e] at h; exact .inr h
def TD.ok (desc : TypeDesc) : TD → Prop
  | .sl e => desc = .slice e
  | .st fs => ∃ g, desc = .struct g ∧ g.toList.map (fun f => (f.offset, f.type)) = fs
  | .arr n e => desc = .array n e
  | .str => desc = .string
  | .int k => desc = .int k
  | .ifc => ∃ ms, desc = .interface ms
  | .sc => match desc with | .struct _ | .array .. | .slice _ | .string | .interface _ => False | _ => True
structure TI.ok (P : Program) (t : Nat) (i : TI) : Prop where
  info : ∃ j z, P.info? t = some j ∧ j.zero = some z ∧ z.cells.toList = i.zero ∧ j.size = i.size ∧ j.bytes = i.bytes
  len : i.zero.length = i.size
  one1 : i.d.agg = false → i.size = 1
  one : ∀ x ∈ i.zero, x.oneCell' = true
  und : ∃ desc, P.underlying t = some desc ∧ i.d.ok desc
def Tab.ok (P : Program) (tab : Tab) : Prop := ∀ t i, tget tab t = some i → i.ok P t

def nth : List SV → Nat → Option SV
  | [], _ => none
  | x :: _, 0 => some x
  | _ :: r, n + 1 => nth r n
def tk : List SV → Nat → Option (List SV)
  | _, 0 => some []
  | [], _ + 1 => none
  | x :: r, n + 1 => match tk r n with | some l => some (x :: l) | none => none
def seg : List SV → Nat → Nat → Option (List SV)
  | l, 0, n => tk l n
  | [], _ + 1, _ => none
  | _ :: r, o + 1, n => seg r o n
theorem nth_eq : ∀ (l : List SV) (n : Nat), nth l n = l[n]?
  | [], n => by simp [nth]
  | x :: r, 0 => by simp [nth]
  | x :: r, n + 1 => by simp [nth, nth_eq r n]
theorem tk_eq : ∀ {l : List SV} {n : Nat} {q : List SV}, tk l n = some q → q = l.take n ∧ n ≤ l.length
  | l, 0, q, h => by simp [tk] at h; simp [← h]
  | [], n + 1, q, h => by simp [tk] at h
  | x :: r, n + 1, q, h => by
    simp only [tk] at h
    split at h
    · rename_i l hl
      cases h
      obtain ⟨h1, h2⟩ := tk_eq hl
      simp [h1, h2]
    · cases h
theorem seg_eq : ∀ {l : List SV} {o n : Nat} {q : List SV}, seg l o n = some q → q = (l.drop o).take n ∧ o + n ≤ l.length
  | l, 0, n, q, h => by
    have : tk l n = some q := by cases l <;> simpa [seg] using h
    simpa using tk_eq this
  | [], o + 1, n, q, h => by simp [seg] at h
  | x :: r, o + 1, n, q, h => by
    have := seg_eq (l := r) (by simpa [seg] using h)
    refine ⟨by simpa using this.1, by simp; omega⟩

def frc : List SV → (List SV → Prop) → Prop
  | [], K => K []
  | x :: r, K => frc r fun r' => K (x :: r')
theorem frc_eq : ∀ (l : List SV) (K : List SV → Prop), frc l K = K l
  | [], K => rfl
  | x :: r, K => by simp [frc, frc_eq r]

/-- Part into two ways; a known test takes one. -/
def bcs (b : Bool) (p q : Prop) : Prop := match b with | true => p | false => q
theorem bcs_dec {c : Prop} [Decidable c] {p q : Prop} (h : c → p) (k : ¬ c → q) : bcs (decide c) p q := by
  by_cases hc : c
  · rw [decide_eq_true hc]; exact h hc
  · rw [decide_eq_false hc]; exact k hc
theorem bcs_ndec {c : Prop} [Decidable c] {p q : Prop} (h : ¬ c → p) (k : c → q) : bcs (!decide c) p q := by
  by_cases hc : c
  · rw [decide_eq_true hc]; exact k hc
  · rw [decide_eq_false hc]; exact h hc
theorem bcs_not {b : Bool} {p q : Prop} (h : bcs b q p) : bcs (!b) p q := by cases b <;> exact h
theorem bcs_intro {b : Bool} {p q : Prop} (h : b = true → p) (k : b = false → q) : bcs b p q := by cases b; exact k rfl; exact h rfl

/-- What is left to its user: an operation of which nothing is known here. -/
def ExtV (P : Program) (s : St) (o : Oper) (K : SV → Prop) : Prop :=
  ∀ (B : Bs) (N : Nat) (ρ : List Loc) (a : Act) (w : World), Holds B N ρ s a w → ∃ v x, (execOp a.eval o).run P w = .ok (.value v) w ∧ Rel ρ x v ∧ K x

def rng (k : IntKind) (x : Int) (q : Prop) : Prop := match k with
  | .i64 => (-9223372036854775808 ≤ x ∧ x ≤ 9223372036854775807) ∧ q
  | .i32 => (-2147483648 ≤ x ∧ x ≤ 2147483647) ∧ q
  | .u8 => (0 ≤ x ∧ x ≤ 255) ∧ q
  | .u64 => (0 ≤ x ∧ x ≤ 18446744073709551615) ∧ q
  | _ => False
def vcInt (op : BinOp) (k : IntKind) (a b : Int) (K : SV → Prop) : Prop :=
  match op with
  | .add => rng k (a + b) (K (.v (.int k (a + b))))
  | .sub => rng k (a - b) (K (.v (.int k (a - b))))
  | .mul => rng k (a * b) (K (.v (.int k (a * b))))
  | .quo => (0 ≤ a ∧ 0 < b) ∧ rng k a (K (.v (.int k (a / b))))
  | .rem => b ≠ 0 ∧ K (.v (.int k (a.tmod b)))
  | .eql => K (.v (.bool (a == b)))
  | .neq => K (.v (.bool (a != b)))
  | .lss => K (.v (.bool (decide (a < b))))
  | .leq => K (.v (.bool (decide (a ≤ b))))
  | .gtr => K (.v (.bool (decide (a > b))))
  | .geq => K (.v (.bool (decide (a ≥ b))))
  | _ => False

theorem wrap_i64' {x : Int} (h : -9223372036854775808 ≤ x ∧ x ≤ 9223372036854775807) : IntKind.i64.wrap x = x := by
  simp only [IntKind.wrap, IntKind.bits, IntKind.signed]
  simp
  split <;> omega
theorem wrap_i32' {x : Int} (h : -2147483648 ≤ x ∧ x ≤ 2147483647) : IntKind.i32.wrap x = x := by
  simp only [IntKind.wrap, IntKind.bits, IntKind.signed]
  simp
  split <;> omega
theorem wrap_u8' {x : Int} (h : 0 ≤ x ∧ x ≤ 255) : IntKind.u8.wrap x = x := by
  simp only [IntKind.wrap, IntKind.bits, IntKind.signed]
  simp
  omega
theorem wrap_u64' {x : Int} (h : 0 ≤ x ∧ x ≤ 18446744073709551615) : IntKind.u64.wrap x = x := by
  simp only [IntKind.wrap, IntKind.bits, IntKind.signed]
  simp
  omega

theorem rng_wrap {k : IntKind} {x : Int} {q : Prop} (h : rng k x q) : k.wrap x = x ∧ q := by
  cases k <;> first | exact h.elim | exact ⟨wrap_i64' h.1, h.2⟩ | exact ⟨wrap_i32' h.1, h.2⟩ | exact ⟨wrap_u8' h.1, h.2⟩ | exact ⟨wrap_u64' h.1, h.2⟩
/-- An operation on two integers comes to a plain value. -/
theorem vcInt_sound {P : Program} {op : BinOp} {k : IntKind} {a b : Int} {K : SV → Prop} (t : TypeId) (x y : Operand) (h : vcInt op k a b K) :
    ∃ v, (∀ w : World, (do eqGuard op t x y (.int k a) (.int k b); binOp op t (.int k a) (.int k b) : Sem Value).run P w = .ok v w) ∧ K (.v v) := by
  cases op
  case add => obtain ⟨e, hk⟩ := rng_wrap h; exact ⟨_, fun w => by simp [eqGuard_at_int, binOp, Op.intArith, e], hk⟩
  case sub => obtain ⟨e, hk⟩ := rng_wrap h; exact ⟨_, fun w => by simp [eqGuard_at_int, binOp, Op.intArith, e], hk⟩
  case mul => obtain ⟨e, hk⟩ := rng_wrap h; exact ⟨_, fun w => by simp [eqGuard_at_int, binOp, Op.intArith, e], hk⟩
  case quo =>
    obtain ⟨⟨h1, h2⟩, h3⟩ := h
    obtain ⟨e, hk⟩ := rng_wrap h3
    have e2 : k.wrap (a.tdiv b) = a / b := by
      rw [Int.tdiv_eq_ediv_of_nonneg h1]
      have hle : a / b ≤ a := Int.ediv_le_self b h1
      have hge : 0 ≤ a / b := Int.ediv_nonneg h1 (by omega)
      have : ∀ x : Int, 0 ≤ x → x ≤ a → k.wrap x = x := by
        intro x hx0 hxa
        cases k <;> first | exact h3.elim | exact wrap_i64' ⟨by omega, by have := h3.1; omega⟩ | exact wrap_i32' ⟨by omega, by have := h3.1; omega⟩ | exact wrap_u8' ⟨by omega, by have := h3.1; omega⟩ | exact wrap_u64' ⟨by omega, by have := h3.1; omega⟩
      exact this _ hge hle
    exact ⟨_, fun w => by simp [eqGuard_at_int, binOp, Op.intDiv, show b ≠ 0 by omega, e2], hk⟩
  case rem => obtain ⟨h1, hk⟩ := h; exact ⟨_, fun w => by simp [eqGuard_at_int, binOp, Op.intDiv, h1], hk⟩
  case eql => exact ⟨_, fun w => by simp [eqGuard_at_int, binOp, Op.intCmp], h⟩
  case neq => exact ⟨_, fun w => by simp [eqGuard_at_int, binOp, Op.intCmp], h⟩
  case lss => exact ⟨_, fun w => by simp [eqGuard_at_int, binOp, Op.intCmp], h⟩
  case leq => exact ⟨_, fun w => by simp [eqGuard_at_int, binOp, Op.intCmp], h⟩
  case gtr => exact ⟨_, fun w => by simp [eqGuard_at_int, binOp, Op.intCmp], h⟩
  case geq => exact ⟨_, fun w => by simp [eqGuard_at_int, binOp, Op.intCmp], h⟩
  all_goals exact h.elim
end Go.Proofs.YtiihmggoebohkaaDoor.Vc
