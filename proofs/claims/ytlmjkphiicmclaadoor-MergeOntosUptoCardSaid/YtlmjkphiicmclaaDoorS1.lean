/- Chapter 1: strings as lists of bytes; the library's functions as contracts; lists of strings. -/
import Derived.Test.YtlmjkphiicmclaaDoorTab18
import Derived.Test.YtlmjkphiicmclaaDoorVc25
import Derived.Test.YtlmjkphiicmclaaDoorShelf
namespace Go.Proofs.YtlmjkphiicmclaaDoor
open Go Go.RowKit Vc
abbrev Byt := List UInt8
def bs (l : Byt) : ByteArray := ⟨l.toArray⟩
theorem bs_size (l : Byt) : (bs l).size = l.length := by simp [bs, ByteArray.size]
theorem bs_data (l : Byt) : (bs l).data.toList = l := by simp [bs]
theorem bs_bt (l : Byt) (k : Int) : bt (bs l) k = ((l.getD k.toNat 0).toNat : Int) := by simp [bt, bs]
theorem bs_of (b : ByteArray) : bs b.data.toList = b := by simp [bs]
theorem bs_list (l : Byt) : (bs l).toList = l := by rw [ByteArray.toList_eq, bs_data]
theorem bs_inj {a b : Byt} (h : bs a = bs b) : a = b := by rw [← bs_data a, h, bs_data]
theorem bs_cut (l : Byt) (i j : Nat) : (bs l).extract i j = bs ((l.drop i).take (j - i)) := by
  have e : (bs l).extract i j = ⟨(bs l).data.extract i j⟩ := by
    apply ByteArray.ext
    simp
  rw [e]
  unfold bs
  congr 1
  apply Array.ext'
  simp [List.extract_eq_take_drop]
theorem bs_app (a b : Byt) : bs a ++ bs b = bs (a ++ b) := by
  apply ByteArray.ext
  simp [bs]
theorem bs_eq (a b : Byt) : ((bs a).toList == (bs b).toList) = decide (a = b) := by
  rw [bs_list, bs_list]
  by_cases h : a = b
  · simp [h]
  · simp [h]
abbrev str (l : Byt) : SV := .v (.string (bs l))
abbrev stEnc (l : Byt) : List SV := [str l]
abbrev stRow (L : List Byt) : Nat → List SV := fun i => stEnc (L.getD i [])
abbrev stRo (L : List Byt) : Ch := .ro 1 L.length (stRow L)
abbrev stOwn (L : List Byt) : Ch := .own 9 1 L.length (stRow L)
abbrev byEnc (c : UInt8) : List SV := [.v (.int .u8 (c.toNat : Int))]
abbrev byRow (l : Byt) : Nat → List SV := fun i => byEnc (l.getD i 0)
abbrev byOwn (l : Byt) : Ch := .own 5 1 l.length (byRow l)
abbrev glob : List (Nat × Value) := [(0, .iface 123 (.agg #[.pointer (some ⟨5, 28, none⟩)]))]

theorem below_same {w w' : World} (h : w' = w) : Below w.heap.size w w' := by subst h; exact Below.refl _ _

theorem idx_con (l : Byt) : Con Tryd.prog glob 66 [str l, .v (.int .u8 10)] [] 0 (retV 0 (.v (.int .i64 (Lib.indexByte l 10)))) :=
  con_plain ⟨_, Tryd.func66, rfl, rfl⟩ (args := [.string (bs l), .int .u8 10]) fun w _ => (Tryd.strings_IndexByte (bs l) 10 w).mono fun e w' ⟨h1, h2⟩ => ⟨by rw [h1, bs_data]; rfl, below_same h2⟩
theorem suf_con (l : Byt) (hl : l.length ≤ 9223372036854775807) : Con Tryd.prog glob 78 [str l, .v (.string ⟨#[10]⟩)] [] 0 (retV 0 (.v (.bool (Lib.hasSuffix l [10])))) :=
  con_plain ⟨_, Tryd.func78, rfl, rfl⟩ (args := [.string (bs l), .string ⟨#[10]⟩]) fun w _ => (Tryd.strings_HasSuffix (bs l) ⟨#[10]⟩ w (by rw [bs_size]; omega)).mono fun e w' ⟨h1, h2⟩ => ⟨by rw [h1, bs_data], below_same h2⟩

/-- The bytes of all, one behind the other. -/
theorem appB {out x : Byt} {n : Nat} {K : (Nat → List SV) → Prop} (hn : n = out.length) (hk : K (byRow (out ++ x))) :
    ∃ f' : Nat → List SV, (∀ j, j < n → f' j = byRow out j) ∧ (∀ j, j < (bs x).size → f' (n + j) = [.v (.int .u8 (bt (bs x) (j : Int)))]) ∧ K f' := by
  subst hn
  refine ⟨_, fun j hj => ?_, fun j hj => ?_, hk⟩
  · simp only [byRow]; rw [getD_app1 hj]
  · simp only [byRow, byEnc]; rw [getD_app2, bs_bt]; rfl

theorem appB0 {x : Byt} {f : Nat → List SV} {K : (Nat → List SV) → Prop} (hk : K (byRow x)) :
    ∃ f' : Nat → List SV, (∀ j, j < 0 → f' j = f j) ∧ (∀ j, j < (bs x).size → f' (0 + j) = [.v (.int .u8 (bt (bs x) (j : Int)))]) ∧ K f' :=
  ⟨_, fun j hj => absurd hj (by omega), fun j _ => by simp only [byRow, byEnc]; rw [Nat.zero_add, bs_bt]; rfl, hk⟩
end Go.Proofs.YtlmjkphiicmclaaDoor
