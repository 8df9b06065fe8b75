/- Verification conditions by symbolic execution: what such an operation comes to. -/
import Derived.Test.YtiihmggoebohkaaDoorVc3
namespace Go.Proofs.YtiihmggoebohkaaDoor.Vc
open Go Go.RowKit

def kB : IntKind → IntKind → Bool
  | .i8, .i8 => true | .i16, .i16 => true | .i32, .i32 => true | .i64, .i64 => true
  | .u8, .u8 => true | .u16, .u16 => true | .u32, .u32 => true | .u64, .u64 => true
  | _, _ => false
theorem kB_eq {k k' : IntKind} (h : kB k k' = true) : k = k' := by cases k <;> cases k' <;> first | rfl | cases h

def cont : Ch → Nat → (List SV → Prop) → Prop
  | .non, _, _ => False
  | .box _ l, i, K => bif Nat.beq i 0 then K l else False
  | .ro _ n f, i, K => i < n ∧ frc (f i) K
  | .own _ _ n f, i, K => i < n ∧ frc (f i) K
def ldL (tab : Tab) (T : Nat) (l : List SV) (o : Nat) (K : SV → Prop) : Prop :=
  match tget tab T with
  | none => False
  | some i => match i.d with
    | .st _ => match seg l o i.size with | some q => K (.a q) | none => False
    | .arr _ _ => match seg l o i.size with | some q => K (.a q) | none => False
    | .ifc => match nth l o with | some x => K x | none => False
    | .sl _ => match nth l o with | some x => K x | none => False
    | .str => match nth l o with | some x => K x | none => False
    | .int _ => match nth l o with | some x => K x | none => False
    | .sc => match nth l o with | some x => K x | none => False
def nthP : List (Nat × Nat) → Nat → Option (Nat × Nat)
  | [], _ => none
  | x :: _, 0 => some x
  | _ :: r, n + 1 => nthP r n
theorem nthP_eq : ∀ (l : List (Nat × Nat)) (n : Nat), nthP l n = l[n]?
  | [], n => by simp [nthP]
  | x :: r, 0 => by simp [nthP]
  | x :: r, n + 1 => by simp [nthP, nthP_eq r n]

def bt (b : ByteArray) (k : Int) : Int := ((b.data.toList.getD k.toNat 0).toNat : Int)
def setSeg : List SV → Nat → List SV → List SV
  | l, _, [] => l
  | l, o, x :: r => setSeg (l.set o x) (o + 1) r
/-- The parts of a struct or array that is made. -/
def fillS (place : Nat → Option (Nat × Nat × Bool)) (s : St) : List (Nat × Operand) → List SV → (List SV → Prop) → Prop
  | [], l, K => frc l K
  | (i, x) :: r, l, K => match place i with
    | none => False
    | some (o, n, agg) => match agg with
      | true => match ev s x with
        | .a q => bif Nat.beq q.length n && Nat.ble (o + n) l.length then fillS place s r (setSeg l o q) K else False
        | _ => False
      | false => bif Nat.beq n 1 && Nat.ble (o + 1) l.length && (ev s x).one then fillS place s r (l.set o (ev s x)) K else False
def allT (tab : Tab) : List (Nat × Nat) → Bool
  | [] => true
  | (_, ty) :: r => match tget tab ty with | some _ => allT tab r | none => false

def bnds (s : St) (lo hi : Option Operand) (n : Nat) (go : Int → Int → Prop) : Prop :=
  match lo, hi with
  | none, none => go 0 n
  | some l, none => match ev s l with | .v (.int _ l) => go l n | _ => False
  | none, some h => match ev s h with | .v (.int _ h) => go 0 h | _ => False
  | some l, some h => match ev s l, ev s h with | .v (.int _ l), .v (.int _ h) => go l h | _, _ => False

def vcVal (P : Program) (tab : Tab) (s : St) (o : Oper) (K : SV → Prop) : Prop :=
  match o.op with
  | .move x => K (ev s x)
  | .assign x => K (ev s x)
  | .pick c a b => match ev s c with
    | .v (.bool c) => bcs c (K (ev s a)) (K (ev s b))
    | _ => False
  | .binOp op T x y _ => match ev s x, ev s y with
    | .v (.int k a), .v (.int k' b) => bif kB k k' then vcInt op k a b K else False
    | .v (.string a), .v (.string b) => match op with
      | .add => a.size + b.size ≤ 9223372036854775807 ∧ K (.v (.string (a ++ b)))
      | .eql => K (.v (.bool (a.toList == b.toList)))
      | .neq => K (.v (.bool (!(a.toList == b.toList))))
      | _ => ExtV P s o K
    | .v (.iface _ _), .v .nilIface => match tget tab T with
      | some i => match i.d with
        | .ifc => match op with
          | .eql => K (.v (.bool false))
          | .neq => K (.v (.bool true))
          | _ => False
        | _ => False
      | none => False
    | .v .nilIface, .v .nilIface => match y with
      | .const _ => match tget tab T with
        | some i => match i.d with
          | .ifc => match op with
            | .eql => K (.v (.bool true))
            | .neq => K (.v (.bool false))
            | _ => False
          | _ => False
        | none => False
      | _ => False
    | _, _ => ExtV P s o K
  | .unOp op _ x => match op, ev s x with
    | .not, .v (.bool b) => K (.v (.bool (!b)))
    | .neg, .v (.int k n) => rng k (0 - n) (K (.v (.int k (0 - n))))
    | _, _ => ExtV P s o K
  | .fieldAddr T x k => match ev s x with
    | .p c i d => match tget tab T with
      | some ti => match ti.d with
        | .st fs => match nthP fs k with
          | some (off, ty) => match tget tab ty with
            | some tj => bif Nat.beq tj.size 0 then False else K (.p c i (d + off))
            | none => False
          | none => False
        | _ => False
      | none => False
    | _ => ExtV P s o K
  | .indexAddr T x y => match ev s x, ev s y with
    | .s c i n, .v (.int _ k) => match tget tab T with
      | some ti => match ti.d with
        | .sl e => match tget tab e with
          | some te => match mget s.mem c with
            | .ro sz _ _ => bif Nat.beq sz te.size then (0 ≤ k ∧ k < (n : Int)) ∧ K (.p c (i + k.toNat) 0) else False
            | .own _ sz _ _ => bif Nat.beq sz te.size then (0 ≤ k ∧ k < (n : Int)) ∧ K (.p c (i + k.toNat) 0) else False
            | _ => False
          | none => False
        | _ => False
      | none => False
    | .o c, .v (.int _ k) => match tget tab T with
      | some ti => match ti.d with
        | .sl e => match tget tab e with
          | some te => match mget s.mem c with
            | .own _ sz n _ => bif Nat.beq sz te.size then (0 ≤ k ∧ k < (n : Int)) ∧ K (.p c k.toNat 0) else False
            | _ => False
          | none => False
        | _ => False
      | none => False
    | .p c i d, .v (.int _ k) => match tget tab T with
      | some ti => match ti.d with
        | .arr n e => match tget tab e with
          | some te => (0 ≤ k ∧ k < (n : Int)) ∧ K (.p c i (d + k.toNat * te.size))
          | none => False
        | _ => False
      | none => False
    | _, _ => ExtV P s o K
  | .load T x => match ev s x with
    | .p c i d => cont (mget s.mem c) i fun l => ldL tab T l d K
    | _ => ExtV P s o K
  | .field T x k => match ev s x with
    | .a l => match tget tab T with
      | some ti => match ti.d with
        | .st fs => match nthP fs k with
          | some (off, ty) => ldL tab ty l off K
          | none => False
        | _ => False
      | none => False
    | _ => ExtV P s o K
  | .index T x y => match ev s x, ev s y with
    | .v (.string b), .v (.int _ k) => match tget tab T with
      | some ti => match ti.d with
        | .str => (0 ≤ k ∧ k < (b.size : Int)) ∧ K (.v (.int .u8 (bt b k)))
        | _ => False
      | none => False
    | .a l, .v (.int _ k) => match tget tab T with
      | some ti => match ti.d with
        | .arr n e => match tget tab e with
          | some te => (0 ≤ k ∧ k < (n : Int)) ∧ ldL tab e l (k.toNat * te.size) K
          | none => False
        | _ => False
      | none => False
    | _, _ => ExtV P s o K
  | .slice T x lo hi mx => match mx with
    | some _ => ExtV P s o K
    | none => match tget tab T with
      | none => False
      | some ti => match ti.d with
        | .str => match ev s x with
          | .v (.string b) => bnds s lo hi b.size fun l h => (0 ≤ l ∧ l ≤ h ∧ h ≤ (b.size : Int)) ∧ K (.v (.string (b.extract l.toNat h.toNat)))
          | _ => ExtV P s o K
        | .sl e => match tget tab e with
          | none => False
          | some te =>
            let goc (c i n : Nat) : Prop := bnds s lo hi n fun l h => (0 ≤ l ∧ l ≤ h ∧ h ≤ (n : Int)) ∧ K (.s c (i + l.toNat) (h.toNat - l.toNat))
            match ev s x with
            | .s c i n => match mget s.mem c with
              | .ro sz _ _ => bif Nat.beq sz te.size then goc c i n else False
              | .own _ sz _ _ => bif Nat.beq sz te.size then goc c i n else False
              | _ => False
            | .o c => match mget s.mem c with
              | .own _ sz n _ => bif Nat.beq sz te.size then goc c 0 n else False
              | _ => False
            | _ => ExtV P s o K
        | _ => ExtV P s o K
  | .extract x k => match ev s x with
    | .t l => match nth l k with | some y => K y | none => False
    | _ => ExtV P s o K
  | .makeInterface T x => match ev s x with
    | .v y => match tget tab T with
      | some ti => match ti.d with
        | .ifc => False
        | _ => K (.v (.iface T y))
      | none => False
    | _ => ExtV P s o K
  | .makeFunc fn fs cs => match fn with
    | .func g => match fs.toList with
      | [] => K (.f g (cs.toList.map (ev s)))
      | _ => ExtV P s o K
    | _ => ExtV P s o K
  | .nilCheck x => match ev s x with
    | .p c i d => K (.p c i d)
    | .f g l => K (.f g l)
    | _ => ExtV P s o K
  | .build T parts => match tget tab T with
    | some ti => match ti.d with
      | .st fs => bif allT tab fs then fillS (fun k => match nthP fs k with | some (off, ty) => (match tget tab ty with | some tj => some (off, tj.size, tj.d.agg) | none => none) | none => none) s parts.toList (ti.zero.map .v) (fun l => K (.a l)) else False
      | .arr _ e => match tget tab e with
        | some te => fillS (fun k => some (k * te.size, te.size, te.d.agg)) s parts.toList (ti.zero.map .v) fun l => K (.a l)
        | none => False
      | _ => False
    | none => False
  | .convert src T x => match tget tab src, tget tab T, ev s x with
    | some _, some ti, .v (.int _ n) => match ti.d with
      | .int k => rng k n (K (.v (.int k n)))
      | _ => ExtV P s o K
    | _, _, _ => ExtV P s o K
  | .call c => match c.callee with
    | .builtin .len => match c.args.toList, c.argTypes.toList with
      | [x], [T] => match tget tab T with
        | none => ExtV P s o K
        | some ti => match ti.d with
          | .sl _ => match ev s x with
            | .s _ _ n => K (.v (.int .i64 n))
            | .o c => match mget s.mem c with
              | .own _ _ n _ => K (.v (.int .i64 n))
              | _ => False
            | .v (.slice _ n _) => K (.v (.int .i64 n))
            | _ => ExtV P s o K
          | .str => match ev s x with
            | .v (.string b) => K (.v (.int .i64 b.size))
            | _ => ExtV P s o K
          | _ => ExtV P s o K
      | _, _ => ExtV P s o K
    | .builtin .min => match c.args.toList with
      | [x, y] => match ev s x, ev s y with
        | .v (.int k a), .v (.int _ b) => K (.v (.int k (min a b)))
        | _, _ => ExtV P s o K
      | _ => ExtV P s o K
    | .builtin .max => match c.args.toList with
      | [x, y] => match ev s x, ev s y with
        | .v (.int k a), .v (.int _ b) => K (.v (.int k (max a b)))
        | _, _ => ExtV P s o K
      | _ => ExtV P s o K
    | _ => ExtV P s o K
  | _ => ExtV P s o K
end Go.Proofs.YtiihmggoebohkaaDoor.Vc
