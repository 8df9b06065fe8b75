/- Verification conditions by symbolic execution: strings and bytes: a string made of bytes, bytes made of a string, a string's bytes appended. -/
import Derived.Test.YtdabahipeepheaaVc22
import Derived.Lib.AppendStr
import Derived.Lib.ConvBytes
import Derived.Lib.BufferRead
import Derived.Lib.UnsafeStr
namespace Go.Proofs.Ytdabahipeepheaa.Vc
open Go Go.RowKit

section
variable {Γ : Cx} {ρ : List Loc} {s : St} {a : Act} {w : World} {K : St → Prop} {dst : Option Nat} {ty : TypeId} {pos : String} {after : Array Edge} {guard : Option (Nat × Bool)}

/-- A string made of bytes. -/
theorem ext_b2s {S T e : TypeId} {x : Operand} (hS : Γ.P.underlying S = some (.slice e)) (he : Γ.P.underlying e = some (.int .u8)) (hT : Γ.P.underlying T = some .string)
    (h : srcOf s.mem 1 (ev s x) fun i n f => ∃ l : List UInt8, n = l.length ∧ (∀ j, j < l.length → f (i + j) = [.v (.int .u8 ((l.getD j 0).toNat : Int))]) ∧ put Γ.N s dst (.v (.string ⟨l.toArray⟩)) K) :
    ExtO Γ s ⟨dst, .convert S T x, ty, pos, after, guard⟩ K := by
  intro ρ a w Q H
  obtain ⟨i, n, f, A, k, news, ⟨l, hn, hf, hk⟩, hv, hnl, _, hng, hnc⟩ := srcOf_sound H (H.ev x) h
  obtain ⟨s', hk', h', _, _⟩ := put_sound H (x := .v (.string ⟨l.toArray⟩)) (v := .string ⟨l.toArray⟩) (by simp only [Rel]) hk
  refine wp_value (v := .string ⟨l.toArray⟩) ?_ ⟨s', ρ, hk', h'⟩
  subst hn
  have hrun : (convert S T (.slice A l.length k)).run Γ.P w = .ok (.string ⟨l.toArray⟩) w := by
    cases A with
    | none =>
      have hl : l = [] := by
        cases l with
        | nil => rfl
        | cons c r =>
          obtain ⟨b, o, hA, _⟩ := hnc (by simp)
          cases hA
      subst hl
      exact Lib.run_convert_nil_bytes w S T e k hS he hT
    | some ad =>
      refine run_convert_bytes_back w S T e ad k l hS he hT fun j hj => ?_
      obtain ⟨b, o, hA, hc⟩ := hnc (by omega)
      cases hA
      have hr := hng j hj
      rw [hf j hj] at hr
      simp only [RelL, Rel] at hr
      obtain ⟨v, vr, e1, e2, e3⟩ := hr
      have hg : news[j]? = some v := by
        have : ((news.drop (j * 1)).take 1)[0]? = some v := by rw [e1]; rfl
        simpa using this
      rw [Addr.add_lit]
      have := hc j v hg
      rw [this, e2]
      simp [hj]
  simp [execOp, hv, hrun]

/-- Bytes made of a string: a row that is only read. -/
theorem ext_s2b {S T e : TypeId} {x : Operand} {b : ByteArray} (hS : Γ.P.underlying S = some .string) (hT : Γ.P.underlying T = some (.slice e)) (he : Γ.P.underlying e = some (.int .u8)) (hx : ev s x = .v (.string b)) (hle : b.size ≤ maxLen)
    (hk : putN Γ.N s dst (.ro 1 b.size fun i => [.v (.int .u8 (bt b i))]) (fun c => .s c 0 b.size) K) : ExtO Γ s ⟨dst, .convert S T x, ty, pos, after, guard⟩ K := by
  intro ρ a w Q H
  have h1 := H.ev x
  rw [hx] at h1
  have hv := rel_v h1
  refine wp_value (v := .slice (some ⟨w.heap.size, 0, none⟩) b.size (grownCap w b.size 0 e)) (w' := Lib.bytesWorld w e b) ?_ ?_
  · simp [execOp, hv, Lib.run_convert_string_bytes w S T e b hS hT he]
  · have hbel : Below w.heap.size w (Lib.bytesWorld w e b) := Lib.below_freeze (((Below.refl _ _).drew).alloc (Nat.le_refl _) _) (Nat.le_refl _) 1
    refine new_sound H hk hbel ⟨w.heap.size, 0, 1, .nilFunc⟩ ?_ ?_ ?_
    · refine ⟨_, last_get _ _, rfl, fun _ => by rw [Lib.bytesWorld_size]; exact Nat.lt_succ_self _, fun i hi => ⟨[.int .u8 (bt b i)], (RelL.plain [_] _).2 rfl, rfl, by simp [Value.oneCell'], fun j u hu => ?_⟩⟩
      have hj : j = 0 := by
        cases j with
        | zero => rfl
        | succ j => simp at hu
      subst hj
      simp only [List.getElem?_cons_zero, Option.some.injEq] at hu
      subst hu
      have := Lib.bytesWorld_cell w e b i hi
      simpa [bt] using this
    · rintro q ⟨_, L, hL, rfl⟩
      rw [last_get] at hL; cases hL; exact Nat.le_refl _
    · simp only [Rel]
      exact ⟨_, _, _, last_get _ _, rfl, grownCap_ge w b.size 0 e, grownCap_le_maxLen w b.size 0 e hle, fun _ => by simp⟩

/-- The law of such an append, with where the row then lies (after the kit's own proof). -/
theorem run_append_str {P : Program} (w : World) (t u ty e : TypeId) (i : TypeInfo) (ht : P.underlying t = some (.slice e)) (hu : P.underlying u = some .string) (hi : P.info? e = some i) (hz : i.zero = some (.int .u8 0))
    (hsize : i.size = 1) (hby : i.bytes = 1) (v : Value) (n : Nat) (xs : List Value) (hown : w.ownsRow 0 e 1 v n xs) (s : ByteArray) (hbytes : n + s.size ≤ 140737488355328) :
    ∃ v' w', (Builtin.append_ #[t, u] ty #[v, .string s]).run P w = .ok v' w' ∧ w'.ownsRow 0 e 1 v' (n + s.size) (xs ++ Lib.strCells s) ∧ w.grownBy w' v.ownBlock ∧ (v'.ownBlock = v.ownBlock ∨ v'.ownBlock = some w.heap.size) := by
  have h63 : n + s.size ≤ maxLen := by simp only [maxLen]; omega
  have hxl : xs.length = n := by simpa using hown.1
  have hlen : (xs ++ Lib.strCells s).length = (n + s.size) * 1 := by rw [List.length_append, hxl, Lib.strCells_length, Nat.mul_one]
  have grown : ∀ (old : Nat), old < n + s.size → ∀ (row : Option Nat),
      (w.drew.alloc (.cells (xs.toArray ++ (Lib.strCells s).toArray ++ Builtin.zeroCells (Value.int .u8 0).cells (grownCap w (n + s.size) old e - (n + s.size))) e)).ownsRow 0 e 1
        (.slice (some ⟨w.heap.size, 0, none⟩) (n + s.size) (grownCap w (n + s.size) old e)) (n + s.size) (xs ++ Lib.strCells s) ∧
      w.grownBy (w.drew.alloc (.cells (xs.toArray ++ (Lib.strCells s).toArray ++ Builtin.zeroCells (Value.int .u8 0).cells (grownCap w (n + s.size) old e - (n + s.size))) e)) row := by
    intro old _ row
    have hge := grownCap_ge w (n + s.size) old e
    have hcm : grownCap w (n + s.size) old e ≤ maxLen := grownCap_le_maxLen w (n + s.size) old e h63
    refine ⟨⟨hlen, .inr ⟨w.heap.size, _, _, rfl, Nat.zero_le _, heap_alloc_new w.drew _, hge, hcm, ?_, ?_⟩⟩, ⟨rfl, rfl, rfl, by simp, fun k hk _ => heap_alloc_old w.drew _ hk⟩⟩
    · have hz1 : (Value.int IntKind.u8 0).cells.size = 1 := rfl
      simp only [Array.size_append, List.size_toArray, size_zeroCells, hz1, hxl, Lib.strCells_length]
      omega
    · simp only [Array.toList_append, List.append_assoc]
      rw [← List.append_assoc, ← hlen]
      exact List.take_left
  rcases hown.2 with ⟨rfl, rfl⟩ | ⟨g, cap, cur, rfl, hbg, hg, hnc, hcm, hcs, htake⟩
  · have hx : xs = [] := List.eq_nil_of_length_eq_zero hxl
    subst hx
    by_cases hm : s.size = 0
    · have hn : Lib.strCells s = [] := List.eq_nil_of_length_eq_zero (by rw [Lib.strCells_length]; exact hm)
      refine ⟨.slice none 0 0, w, ?_, by rw [hm, hn]; exact World.ownsRow_nil w 0 e 1, ⟨rfl, rfl, rfl, Nat.le_refl _, fun _ _ _ => rfl⟩, .inl rfl⟩
      have hf := Lib.run_firstCells_string (P := P) w 1 s
      rw [hm] at hf
      simp [Builtin.append_, run_underlying ht, run_underlying hu, sizeOf, typeInfo, hi, hsize, Builtin.lenOf, hm, hf]
    · have hr := run_append_nil_string (P := P) w t u ty e i (.int .u8 0) ht hu hi hz s (by omega) (by omega) (by rw [hby]; omega)
      have hgr := grown 0 (by omega) (Value.ownBlock (.slice none 0 0))
      simp only [Nat.zero_add, List.nil_append, Array.empty_append] at hgr ⊢
      have e1 : (s.data.map fun b => Value.int .u8 b.toNat) = (Lib.strCells s).toArray := by
        apply Array.ext'
        simp [Lib.strCells]
      rw [e1] at hr
      exact ⟨_, _, hr, hgr.1, hgr.2, .inr rfl⟩
  · by_cases hroom : n + s.size ≤ cap
    · have hcs' : cur.size = cap := by simpa using hcs
      have hr := Lib.run_append_room_string (P := P) w t u ty e i ht hu hi hsize g n cap cur hg s hroom (by omega)
      refine ⟨_, _, hr, ⟨hlen, .inr ⟨g, cap, _, rfl, hbg, setRow_heap w g cur _ e _ hg, hroom, hcm, ?_, ?_⟩⟩, ⟨rfl, rfl, rfl, by simp, fun k _ hk => setRow_other w g k _ (fun e => hk (by simp [Value.ownBlock, e]))⟩, .inl rfl⟩
      · simp only [List.size_toArray, List.length_append, List.length_take, List.length_drop, Array.length_toList, Lib.strCells_length]
        omega
      · have ht' : cur.toList.take n = xs := by simpa using htake
        rw [ht', ← hlen]
        exact List.take_left
    · have holds : ∀ j u, xs[j]? = some u → w.cell? ((⟨g, 0, none⟩ : Addr).add j) = some u := hown.cells (g := g) rfl
      have hr := Lib.run_append_grow_string (P := P) w t u ty e i (.int .u8 0) ht hu hi hz ⟨g, 0, none⟩ n cap xs (by rw [hsize]; simpa using hxl) holds s (by omega) (by omega) (by rw [hby]; exact growslice_fits (by omega) (by omega))
      have hgr := grown cap (by omega) (Value.ownBlock (.slice (some ⟨g, 0, none⟩) n cap))
      exact ⟨_, _, hr, hgr.1, hgr.2, .inr rfl⟩

/-- The row that is appended to. -/
def ownX (s : St) (x : SV) (e : Nat) (K : Nat → (Nat → List SV) → St → Prop) : Prop := match x with
  | .o c => match mget s.mem c with
    | .own e' sz n f => bif Nat.beq e' e && Nat.beq sz 1 then K n f (match s with | ⟨fr, mem, nx⟩ => ⟨fr, (c, .non) :: mem, nx⟩) else False
    | _ => False
  | .v (.slice none 0 0) => K 0 (fun _ => []) s
  | _ => False

/-- What such an append comes to. -/
theorem app_core (H : Holds Γ.B Γ.N ρ s a w) {e sz n m : Nat} {f g f' : Nat → List SV} {s' : St} {v v' : Value} {xs news : List Value} {w' : World} (hvm : ∀ b, v.ownBlock = some b → Γ.B.May b)
    (hfx : ∀ j, j < n → RelL ρ (f j) ((xs.drop (j * sz)).take sz)) (hx1 : ∀ z ∈ xs, z.oneCell' = true) (hn1 : ∀ z ∈ news, z.oneCell' = true) (hxl : xs.length = n * sz) (hng : ∀ j, j < m → RelL ρ (g j) ((news.drop (j * sz)).take sz))
    (hf1 : ∀ j, j < n → f' j = f j) (hf2 : ∀ j, j < m → f' (n + j) = g j) (hs' : Holds Γ.B Γ.N ρ s' a w) (hfree : ∀ d b, Occ ρ d (mget s'.mem d) b → v.ownBlock ≠ some b)
    (hown' : w'.ownsRow 0 e sz v' (n + m) (xs ++ news)) (hgr : w.grownBy w' v.ownBlock) (hbl : v'.ownBlock = v.ownBlock ∨ v'.ownBlock = some w.heap.size)
    (hk : putN Γ.N s' dst (.own e sz (n + m) f') .o K) : After Γ K (a.put dst v') w' := by
  obtain ⟨fr, mem, nx⟩ := s'
  have ex := Ext.app ρ [(⟨v'.ownBlock.getD 0, 0, sz, v'⟩ : Loc)]
  have hm1 : MSat Γ.B ρ mem w' := hs'.mem.grow (fun c b o => hgr.block b (hs'.mem.occ_lt o) (fun e => hfree c b o e.symm)) hgr.size
    (H.mem.frm.step hgr.os hgr.tape hgr.output hgr.size (fun k hk hx => hgr.block k (Nat.lt_of_lt_of_le hk H.mem.frm.size) (fun e => by rcases hvm k e.symm with h | h; omega; exact hx h)))
  have hvm' : ∀ b, v'.ownBlock = some b → Γ.B.May b := by
    intro b hb
    rcases hbl with h | h
    · exact hvm b (by rw [← h]; exact hb)
    · rw [h] at hb; cases hb; exact .inl H.mem.frm.size
  have hch : ChSat Γ.B (ρ ++ [⟨v'.ownBlock.getD 0, 0, sz, v'⟩]) w' ρ.length (.own e sz (n + m) f') := by
    refine ⟨_, xs ++ news, last_get _ _, rfl, rfl, hown', fun b hb => ⟨by simp [hb], hvm' b hb⟩, fun z hz => ?_, fun q hq => ?_⟩
    · rcases List.mem_append.1 hz with h | h
      · exact hx1 z h
      · exact hn1 z h
    · refine RelL.mono ex _ _ ?_
      rcases Nat.lt_or_ge q n with hlt | hge
      · have hle : (q + 1) * sz ≤ n * sz := Nat.mul_le_mul_right _ hlt
        rw [Nat.add_mul] at hle
        rw [hf1 q hlt, List.drop_append_of_le_length (by omega), List.take_append_of_le_length (by simp; omega)]
        exact hfx q hlt
      · obtain ⟨r, rfl⟩ : ∃ r, q = n + r := ⟨q - n, by omega⟩
        rw [hf2 r (by omega), Nat.add_mul, List.drop_append, ← hxl, List.drop_of_length_le (by omega), List.nil_append]
        rw [show xs.length + r * sz - xs.length = r * sz by omega]
        exact hng r (by omega)
  have hm2 : MSat Γ.B (ρ ++ [⟨v'.ownBlock.getD 0, 0, sz, v'⟩]) ((ρ.length, .own e sz (n + m) f') :: mem) w' := hm1.add _ _ hch (fun c b _ o o' => by
    obtain ⟨L, hL, hb⟩ := o'
    rw [last_get] at hL; cases hL
    simp only at hb
    rcases hbl with h | h
    · rw [h] at hb; exact hfree c b o hb
    · rw [h] at hb; cases hb
      have := hs'.mem.occ_lt o
      simp at this) (fun b o => by
    obtain ⟨L, hL, hb⟩ := o
    rw [last_get] at hL; cases hL
    exact hvm' b hb)
  have hnx : ρ.length = nx := hs'.nx
  have H' : Holds Γ.B Γ.N (ρ ++ [⟨v'.ownBlock.getD 0, 0, sz, v'⟩]) ⟨fr, (nx, .own e sz (n + m) f') :: mem, nx + 1⟩ a w' :=
    ⟨by simp [hnx], fun t => (hs'.fr t).mono ex, hs'.size, hs'.dfr, by rw [← hnx]; exact hm2⟩
  have hvo : v'.oneCell' = true := by
    rcases hown'.2 with ⟨h, _⟩ | ⟨g, cap, cur, h, _⟩ <;> rw [h] <;> rfl
  simp only [putN, fch_eq, fnat_eq] at hk
  obtain ⟨s'', hk', h', _, _⟩ := put_sound H' (x := .o nx) (v := v') (by simp only [Rel]; exact ⟨_, by rw [← hnx]; exact last_get _ _, rfl, hvo⟩) hk
  exact ⟨s'', _, hk', h'⟩

theorem strCells_rel {b : ByteArray} {j : Nat} (h : j < b.size) : RelL ρ [.v (.int .u8 (bt b j))] (((Lib.strCells b).drop (j * 1)).take 1) := by
  have hl : j < b.data.toList.length := by simpa using h
  refine (RelL.plain [_] _).2 ?_
  rw [Nat.mul_one, List.drop_eq_getElem_cons (by simpa [Lib.strCells] using hl)]
  have hl' : j < b.data.size := hl
  simp only [Lib.strCells, bt, List.getElem_map, Array.getElem_toList, List.take_succ_cons, List.take_zero, Int.toNat_natCast, List.getD_eq_getElem?_getD, Array.getElem?_toList, Array.getElem?_eq_getElem hl', Option.getD_some]

/-- A string's bytes appended. -/
theorem ext_apps {T U e : TypeId} {te : TypeInfo} {x y : Operand} {b : ByteArray} (hT : Γ.P.underlying T = some (.slice e)) (hU : Γ.P.underlying U = some .string) (hi : Γ.P.info? e = some te) (hz : te.zero = some (.int .u8 0)) (hs : te.size = 1) (hb : te.bytes = 1) (hy : ev s y = .v (.string b))
    (h : ownX s (ev s x) e fun n f s' => n + b.size ≤ 140737488355328 ∧ ∃ f' : Nat → List SV, (∀ j, j < n → f' j = f j) ∧ (∀ j, j < b.size → f' (n + j) = [.v (.int .u8 (bt b j))]) ∧ putN Γ.N s' dst (.own e 1 (n + b.size) f') .o K) :
    ExtO Γ s ⟨dst, .call ⟨.builtin .append, #[x, y], #[T, U]⟩, ty, pos, after, guard⟩ K := by
  intro ρ a w Q H
  have h1 := H.ev y
  rw [hy] at h1
  have hvy := rel_v h1
  have hx := H.ev x
  have fin : ∀ (v : Value) (n : Nat) (f f' : Nat → List SV) (xs : List Value) (s' : St), a.eval x = v → w.ownsRow 0 e 1 v n xs → n + b.size ≤ 140737488355328 → (∀ b, v.ownBlock = some b → Γ.B.May b) → (∀ j, j < n → RelL ρ (f j) ((xs.drop (j * 1)).take 1)) → (∀ z ∈ xs, z.oneCell' = true) →
      (∀ j, j < n → f' j = f j) → (∀ j, j < b.size → f' (n + j) = [.v (.int .u8 (bt b j))]) → Holds Γ.B Γ.N ρ s' a w → (∀ d b, Occ ρ d (mget s'.mem d) b → v.ownBlock ≠ some b) → putN Γ.N s' dst (.own e 1 (n + b.size) f') .o K →
      Oper.wp Γ.P ⟨dst, .call ⟨.builtin .append, #[x, y], #[T, U]⟩, ty, pos, after, guard⟩ a w (After Γ K) Q := by
    intro v n f f' xs s' hv hown hle hvm hfx hx1 hf1 hf2 hs' hfree hk
    obtain ⟨v', w', hrun, hown', hgr, hbl⟩ := run_append_str (P := Γ.P) w T U ty e te hT hU hi hz hs hb v n xs hown b hle
    refine wp_value (v := v') (w' := w') ?_ (app_core H hvm hfx hx1 (Lib.strCells_oneCell b) hown.1 (fun j hj => strCells_rel hj) hf1 hf2 hs' hfree hown' hgr hbl hk)
    simp [execOp, resolve, invoke, builtin, hv, hvy, hrun]
  unfold ownX at h
  split at h
  · rename_i c hex
    rw [hex] at hx
    obtain ⟨L, hL, hv⟩ := rel_o hx
    have hch := H.mem.ch c
    split at h
    · rename_i e' sz n f hm
      rw [hm] at hch
      cases hb2 : (Nat.beq e' e && Nat.beq sz 1) with
      | false => rw [hb2] at h; exact h.elim
      | true =>
        rw [hb2] at h
        simp only [Bool.and_eq_true] at hb2
        have h1 := Nat.eq_of_beq_eq_true hb2.1
        have h2 := Nat.eq_of_beq_eq_true hb2.2
        subst h1 h2
        obtain ⟨hle, f', hf1, hf2, hk⟩ := h
        obtain ⟨fr, mem, nx⟩ := s
        obtain ⟨L', xs, k1, k2, k3, k4, k5, k6, k7⟩ := hch
        rw [hL] at k1; cases k1
        refine fin L.own n f f' xs ⟨fr, (c, .non) :: mem, nx⟩ hv k4 hle (fun b hb => (k5 b hb).2) k7 k6 hf1 hf2 ⟨H.nx, H.fr, H.size, H.dfr, H.mem.drop c⟩ ?_ hk
        intro d b o e
        rw [mget_cons] at o
        split at o
        · exact o.elim
        · rename_i hne
          refine H.mem.sep c d b hne (by simp only at hm; rw [hm]; rfl) (by simp only at hm; rw [hm]; exact ⟨L, hL, e⟩) o
    · exact h.elim
  · rename_i hex
    rw [hex] at hx
    obtain ⟨hle, f', hf1, hf2, hk⟩ := h
    exact fin (.slice none 0 0) 0 (fun _ => []) f' [] s (rel_v hx) (World.ownsRow_nil w _ _ _) hle (fun b hb => by cases hb) (fun j hj => absurd hj (by omega)) (by simp) hf1 hf2 H (fun d b _ e => by cases e) hk
  · exact h.elim
theorem MSat.same {B : Bs} {m m' : Mem} (h : MSat B ρ m w) (e : ∀ c, mget m' c = mget m c) : MSat B ρ m' w :=
  ⟨fun c => by rw [e c]; exact h.ch c, fun c d b => by rw [e c, e d]; exact h.sep c d b, h.frm, h.ext, h.glb, fun c b => by rw [e c]; exact h.fresh c b⟩
/-- A function of one row that is only read, and of plain values: it makes memory at the most. -/
theorem con_row {P : Program} {G : List (Nat × Value)} {g sz n : Nat} {f : Nat → List SV} {args : List Value} {v : Value} (hf : Fun P g)
    (h : ∀ (w : World) (A : Option Addr) (k : Nat), n ≤ k → k ≤ maxLen → (0 < n → ∃ b o, A = some ⟨b, o, none⟩ ∧ b < w.heap.size ∧ ∀ i, i < n → ∀ j u, (f i)[j]? = some (.v u) → w.cell? ⟨b, o + i * sz + j, none⟩ = some u) →
      Calls P g (.slice A n k :: args).toArray w fun e w' => e = .returned v ∧ Below w.heap.size w w') : Con P G g (.s 0 0 n :: args.map .v) [(0, .ro sz n f)] 1 (retV 1 (.v v)) := by
  refine ⟨hf, fun B w vs _ _ hn hms hrel => ?_⟩
  simp only [RelL] at hrel
  obtain ⟨v0, r0, rfl, h0, hr⟩ := hrel
  obtain ⟨L, A, k, hL, rfl, hnk, hk, hA⟩ := rel_s h0
  rw [RelL.plain] at hr
  subst hr
  have hch := hms.ch 0
  simp only [mget_cons] at hch
  obtain ⟨L', hL', hsz, hlt, hc⟩ := hch
  rw [hL] at hL'; cases hL'
  refine (h w A k hnk hk fun hp => ⟨L.blk, L.off, by rw [hA hp]; simp, hlt hp, fun i hi j u hu => ?_⟩).mono ?_
  · obtain ⟨us, hus, _, _, hcell⟩ := hc i hi
    obtain ⟨u', hu', hr⟩ := hus.get hu
    simp only [Rel] at hr
    subst hr
    exact hcell j u' hu'
  · rintro e w' ⟨rfl, hb⟩
    refine ⟨v, .v v, [], 1, B.r0, rfl, ⟨rfl, rfl, rfl⟩, hn, by simp only [Rel], ((hms.below hb).drop 0).same fun c => ?_⟩
    rw [mget_cons, mget_cons]
    split
    · rfl
    · rfl
end
/-- '==' and '!=' of two truth values. -/
theorem ext_eqb {P : Program} {s : St} {T T2 : Nat} {x y : Operand} {p q : Bool} {dst : Option Nat} {ty : TypeId} {pos : String} {after : Array Edge} {guard : Option (Nat × Bool)} {K : SV → Prop}
    (hu : P.underlying T = some .bool) (hx : ev s x = .v (.bool p)) (hy : ev s y = .v (.bool q)) (hk : K (.v (.bool (p == q)))) : ExtV P s ⟨dst, .binOp .eql T x y T2, ty, pos, after, guard⟩ K := by
  intro B N ρ a w H
  have h1 := H.ev x
  have h2 := H.ev y
  rw [hx] at h1
  rw [hy] at h2
  refine good_val (q := do eqGuard .eql T x y (a.eval x) (a.eval y); binOp .eql T (a.eval x) (a.eval y)) rfl (v := .bool (p == q)) ?_ (by simp only [Rel]) hk
  rw [rel_v h1, rel_v h2]
  simp [eqGuard_at_bool, run_eql_bool _ T p q hu]
theorem ext_neb {P : Program} {s : St} {T T2 : Nat} {x y : Operand} {p q : Bool} {dst : Option Nat} {ty : TypeId} {pos : String} {after : Array Edge} {guard : Option (Nat × Bool)} {K : SV → Prop}
    (hu : P.underlying T = some .bool) (hx : ev s x = .v (.bool p)) (hy : ev s y = .v (.bool q)) (hk : K (.v (.bool (!(p == q))))) : ExtV P s ⟨dst, .binOp .neq T x y T2, ty, pos, after, guard⟩ K := by
  intro B N ρ a w H
  have h1 := H.ev x
  have h2 := H.ev y
  rw [hx] at h1
  rw [hy] at h2
  refine good_val (q := do eqGuard .neq T x y (a.eval x) (a.eval y); binOp .neq T (a.eval x) (a.eval y)) rfl (v := .bool (!(p == q))) ?_ (by simp only [Rel]) hk
  rw [rel_v h1, rel_v h2]
  simp [eqGuard_at_bool, run_neq_bool _ T p q hu]
end Go.Proofs.Ytdabahipeepheaa.Vc
