/- Verification conditions by symbolic execution: pointers held against each other; a builder's own pointer laid down; a builder's text. -/
import Derived.Test.YtdabahipeepheaaVc25
import Derived.Shelf.Strings.Builder1
import Derived.WalkKit
namespace Go.Proofs.Ytdabahipeepheaa.Vc
open Go Go.RowKit

section
variable {P : Program} {s : St} {T T2 : Nat} {x y : Operand} {dst : Option Nat} {ty : TypeId} {pos : String} {after : Array Edge} {guard : Option (Nat × Bool)} {K : SV → Prop} {c i o : Nat}
theorem ext_eqpn (hu : P.underlying T = some (.pointer (P.pointee T))) (hx : ev s x = .p c i o) (hy : ev s y = .v (.pointer none)) (hk : K (.v (.bool false))) : ExtV P s ⟨dst, .binOp .eql T x y T2, ty, pos, after, guard⟩ K := by
  intro B N ρ a w H
  have h1 := H.ev x
  have h2 := H.ev y
  rw [hx] at h1
  rw [hy] at h2
  obtain ⟨L, _, e1⟩ := rel_p h1
  refine good_val (q := do eqGuard .eql T x y (a.eval x) (a.eval y); binOp .eql T (a.eval x) (a.eval y)) rfl (v := .bool false) ?_ (by simp only [Rel]) hk
  rw [e1, rel_v h2]
  simp [eqGuard_at_pointer, run_eql_pointer_nil w T _ hu]
theorem ext_neps {te : TypeId} {j : TypeInfo} (hp : P.underlying T = some (.pointer te)) (hte : P.info? te = some j) (hx : ev s x = .p c i o) (hy : ev s y = .p c i o) (hk : K (.v (.bool false))) : ExtV P s ⟨dst, .binOp .neq T x y T2, ty, pos, after, guard⟩ K := by
  intro B N ρ a w H
  have h1 := H.ev x
  have h2 := H.ev y
  rw [hx] at h1
  rw [hy] at h2
  obtain ⟨L, hL, e1⟩ := rel_p h1
  obtain ⟨L', hL', e2⟩ := rel_p h2
  rw [hL] at hL'; cases hL'
  refine good_val (q := do eqGuard .neq T x y (a.eval x) (a.eval y); binOp .neq T (a.eval x) (a.eval y)) rfl (v := .bool false) ?_ (by simp only [Rel]) hk
  rw [e1, e2]
  simp [eqGuard_at_pointer, Lib.run_neq_ptr_same w _ hp hte]
end

/-- What a box of two cells is in the world. -/
theorem box_two {B : Bs} {ρ : List Loc} {w : World} {c T : Nat} {x y : SV} (h : ChSat B ρ w c (.box T [x, y])) :
    ∃ L u v, ρ[c]? = some L ∧ L.off = 0 ∧ L.sz = 2 ∧ w.heap[L.blk]? = some (.cells #[u, v] T (0, 0)) ∧ Rel ρ x u ∧ Rel ρ y v ∧ u.oneCell' = true ∧ v.oneCell' = true ∧ B.May L.blk := by
  obtain ⟨L, us, hL, hoff, hsz, hheap, hrl, hone, hmay⟩ := h
  simp only [RelL] at hrl
  obtain ⟨u, r, rfl, hu, v, r2, rfl, hv, rfl⟩ := hrl
  exact ⟨L, u, v, hL, hoff, hsz, hheap, hu, hv, hone u (by simp), hone v (by simp), hmay⟩

/-- A method that lays its receiver's own address into its first cell. -/
theorem con_poke {P : Program} {G : List (Nat × Value)} {g T nx : Nat} {x : SV} {m : Mem} (hf : Fun P g)
    (h : ∀ (w : World) (b : Nat) (u : Value), w.heap[b]? = some (.cells #[.pointer none, u] T (0, 0)) → Calls P g #[.pointer (some ⟨b, 0, none⟩)] w fun e w' => e = .returned (.tuple #[]) ∧ w' = w.setCell ⟨b, 0, none⟩ (.pointer (some ⟨b, 0, none⟩))) :
    Con P G g [.p 0 0 0] ((0, .box T [.v (.pointer none), x]) :: m) nx (retM (.t []) ((0, .box T [.p 0 0 0, x]) :: m) nx) := by
  refine ⟨hf, fun B w vs _ _ hn hms hrel => ?_⟩
  simp only [RelL] at hrel
  obtain ⟨v0, r0, rfl, h0, rfl⟩ := hrel
  obtain ⟨L, hL, rfl⟩ := rel_p h0
  have hch := hms.ch 0
  have hg : mget ((0, .box T [.v (.pointer none), x]) :: m) 0 = .box T [.v (.pointer none), x] := by rw [mget_cons]; rfl
  rw [hg] at hch
  obtain ⟨L', u, v, hL', hoff, hsz, hheap, hu, hv, _, hv1, hmay⟩ := box_two hch
  rw [hL] at hL'; cases hL'
  obtain rfl := rel_v hu
  have ea : (⟨L.blk, L.off + 0 * L.sz + 0, none⟩ : Addr) = ⟨L.blk, 0, none⟩ := by rw [hoff, Nat.zero_mul]
  rw [ea]
  refine (h w L.blk v hheap).mono ?_
  rintro e w' ⟨rfl, rfl⟩
  refine ⟨.tuple #[], .t [], _, nx, B.r0, rfl, ⟨rfl, rfl, rfl⟩, hn, by simp [Rel, RelL], ?_⟩
  have hocc : ∀ k, Occ B.r0 0 (.box T [.v (.pointer none), x]) k ↔ k = L.blk := fun k => ⟨fun ⟨L2, h2, e⟩ => by rw [hL] at h2; cases h2; exact e.symm, fun e => ⟨L, hL, e.symm⟩⟩
  have hlt : L.blk < w.heap.size := by
    rcases Nat.lt_or_ge L.blk w.heap.size with hlt | hge
    · exact hlt
    · rw [Array.getElem?_eq_none hge] at hheap; cases hheap
  have hsame : ∀ k, k ≠ L.blk → (w.setCell ⟨L.blk, 0, none⟩ (.pointer (some ⟨L.blk, 0, none⟩))).heap[k]? = w.heap[k]? := fun k hk => by
    rw [Below.heap_setCell _ _ _ _ (by simpa using hk)]
  refine (hms.upd 0 (.box T [.p 0 0 0, x]) (by rw [hg]; rfl) (fun b o => by rw [hg]; exact o) (fun k hk => hsame k fun e => hk (by rw [hg]; exact (hocc k).2 e)) (by simp [World.setCell]) (hms.frm.step rfl rfl rfl (by simp [World.setCell]) fun k hk hx => hsame k fun e => ?_) ?_).same fun c => ?_
  · subst e
    rcases hmay with h1 | h1
    · omega
    · exact hx h1
  · refine ⟨L, [.pointer (some ⟨L.blk, 0, none⟩), v], hL, hoff, hsz, ?_, ?_, ?_, hmay⟩
    · simp [World.setCell, Array.getElem?_modify, hheap]
    · simp only [RelL, Rel]
      exact ⟨_, _, rfl, ⟨L, hL, by rw [ea]⟩, _, _, rfl, hv, rfl⟩
    · intro z hz
      simp only [List.mem_cons, List.not_mem_nil, or_false] at hz
      rcases hz with rfl | rfl
      · rfl
      · exact hv1
  · rw [mget_cons, mget_cons, mget_cons]
    split <;> rfl

/-- A builder's text, whatever it holds (its row is written no more behind it). -/
theorem con_bstr {P : Program} {G : List (Nat × Value)} {g T e : Nat} {a : SV} {l : List UInt8} (hf : Fun P g)
    (h : ∀ (w : World) (b : Nat) (p v : Value), w.heap[b]? = some (.cells #[p, v] T (0, 0)) → w.ownsRow 0 e 1 v l.length (Lib.byteCells l) → Calls P g #[.pointer (some ⟨b, 0, none⟩)] w fun e' w' => e' = .returned (.string ⟨l.toArray⟩) ∧
      (Below w.heap.size w w' ∨ ∃ q, v.ownBlock = some q ∧ w' = w.drew.freeze ⟨q, 0, none⟩ l.length)) :
    Con P G g [.p 0 0 0] [(0, .box T [a, .o 1]), (1, .own e 1 l.length fun i => [.v (.int .u8 ((l.getD i 0).toNat : Int))])] 2 (retM (.v (.string ⟨l.toArray⟩)) [] 2) := by
  refine ⟨hf, fun B w vs _ _ hn hms hrel => ?_⟩
  simp only [RelL] at hrel
  obtain ⟨v0, r0, rfl, h0, rfl⟩ := hrel
  obtain ⟨L, hL, rfl⟩ := rel_p h0
  have hch := hms.ch 0
  rw [mget_cons, if_pos rfl] at hch
  obtain ⟨L', p, v, hL', hoff, hsz, hheap, _, hv, _, _, _⟩ := box_two hch
  rw [hL] at hL'; cases hL'
  obtain ⟨M, hM, rfl⟩ := rel_o hv
  have hc1 := hms.ch 1
  rw [mget_cons, if_neg (by omega), mget_cons, if_pos rfl] at hc1
  obtain ⟨M', us, hM', _, _, hown, hmay, _, hrow⟩ := hc1
  rw [hM] at hM'; cases hM'
  have hus : us = Lib.byteCells l := by
    refine List.ext_getElem? fun j => ?_
    have hl : us.length = l.length := by simpa using hown.1
    rcases Nat.lt_or_ge j l.length with hj | hj
    · have hr := hrow j hj
      simp only [RelL, Rel] at hr
      obtain ⟨z, r, e1, e2, _⟩ := hr
      have : ((us.drop (j * 1)).take 1)[0]? = some z := by rw [e1]; rfl
      have hz : us[j]? = some z := by simpa using this
      rw [hz, e2]
      simp [Lib.byteCells, hj]
    · rw [List.getElem?_eq_none (by omega), List.getElem?_eq_none (by simp [Lib.byteCells]; omega)]
  subst hus
  have ea : (⟨L.blk, L.off + 0 * L.sz + 0, none⟩ : Addr) = ⟨L.blk, 0, none⟩ := by rw [hoff, Nat.zero_mul]
  rw [ea]
  refine (h w L.blk p M.own hheap hown).mono ?_
  rintro e' w' ⟨rfl, hw⟩
  refine ⟨_, .v (.string ⟨l.toArray⟩), [], 2, B.r0, rfl, ⟨rfl, rfl, rfl⟩, hn, by simp only [Rel], ⟨fun c => trivial, fun c d b _ hw _ => (by cases hw), ?_, hms.ext, hms.glb, fun c b _ o => o.elim⟩⟩
  rcases hw with hb | ⟨q, hq, rfl⟩
  · exact hms.frm.below hb
  · have hmq := (hmay q hq).2
    have hb := Lib.below_freeze ((Below.refl 0 w).drew) (p := ⟨q, 0, none⟩) (Nat.zero_le _) l.length
    refine hms.frm.step hb.os hb.tape hb.output hb.size fun k hk hx => ?_
    have hne : q ≠ k := by
      rintro rfl
      rcases hmq with h1 | h1
      · omega
      · exact hx h1
    unfold World.freeze
    split
    · rfl
    · simp [World.drew, -World.drew_eq, Array.getElem?_modify, hne]
/-- .. of one that has never been written. -/
theorem con_bstrF {P : Program} {G : List (Nat × Value)} {g T : Nat} {a : SV} (hf : Fun P g)
    (h : ∀ (w : World) (b : Nat) (p : Value), w.heap[b]? = some (.cells #[p, .slice none 0 0] T (0, 0)) → Calls P g #[.pointer (some ⟨b, 0, none⟩)] w fun e' w' => e' = .returned (.string ⟨#[]⟩) ∧ Below w.heap.size w w') :
    Con P G g [.p 0 0 0] [(0, .box T [a, .v (.slice none 0 0)])] 1 (retM (.v (.string ⟨#[]⟩)) [] 1) := by
  refine ⟨hf, fun B w vs _ _ hn hms hrel => ?_⟩
  simp only [RelL] at hrel
  obtain ⟨v0, r0, rfl, h0, rfl⟩ := hrel
  obtain ⟨L, hL, rfl⟩ := rel_p h0
  have hch := hms.ch 0
  rw [mget_cons, if_pos rfl] at hch
  obtain ⟨L', p, v, hL', hoff, hsz, hheap, _, hv, _, _, _⟩ := box_two hch
  rw [hL] at hL'; cases hL'
  obtain rfl := rel_v hv
  have ea : (⟨L.blk, L.off + 0 * L.sz + 0, none⟩ : Addr) = ⟨L.blk, 0, none⟩ := by rw [hoff, Nat.zero_mul]
  rw [ea]
  refine (h w L.blk p hheap).mono ?_
  rintro e' w' ⟨rfl, hb⟩
  exact ⟨_, .v (.string ⟨#[]⟩), [], 1, B.r0, rfl, ⟨rfl, rfl, rfl⟩, hn, by simp only [Rel], ⟨fun c => trivial, fun c d b _ hw _ => (by cases hw), hms.frm.below hb, hms.ext, hms.glb, fun c b _ o => o.elim⟩⟩

/-- A method that does nothing. -/
theorem con_keep {P : Program} {G : List (Nat × Value)} {g T nx : Nat} {x : SV} {m : Mem} (hf : Fun P g)
    (h : ∀ (w : World) (b : Nat) (u : Value), w.heap[b]? = some (.cells #[.pointer (some ⟨b, 0, none⟩), u] T (0, 0)) → Calls P g #[.pointer (some ⟨b, 0, none⟩)] w fun e w' => e = .returned (.tuple #[]) ∧ w' = w) :
    Con P G g [.p 0 0 0] ((0, .box T [.p 0 0 0, x]) :: m) nx (retM (.t []) ((0, .box T [.p 0 0 0, x]) :: m) nx) := by
  refine ⟨hf, fun B w vs _ _ hn hms hrel => ?_⟩
  simp only [RelL] at hrel
  obtain ⟨v0, r0, rfl, h0, rfl⟩ := hrel
  obtain ⟨L, hL, rfl⟩ := rel_p h0
  have hch := hms.ch 0
  rw [mget_cons, if_pos rfl] at hch
  obtain ⟨L', u, v, hL', hoff, hsz, hheap, hu, _, _, _, _⟩ := box_two hch
  rw [hL] at hL'; cases hL'
  obtain ⟨L', hL', rfl⟩ := rel_p hu
  rw [hL] at hL'; cases hL'
  have ea : (⟨L.blk, L.off + 0 * L.sz + 0, none⟩ : Addr) = ⟨L.blk, 0, none⟩ := by rw [hoff, Nat.zero_mul]
  rw [ea] at hheap ⊢
  refine (h w L.blk v hheap).mono ?_
  rintro e w' ⟨rfl, rfl⟩
  exact ⟨.tuple #[], .t [], _, nx, B.r0, rfl, ⟨rfl, rfl, rfl⟩, hn, by simp [Rel, RelL], hms⟩
end Go.Proofs.Ytdabahipeepheaa.Vc

namespace Go.Proofs.Ytdabahipeepheaa
open Go Go.RowKit Go.Shelf
variable {P : Program} {ρ : Ren}
set_option maxHeartbeats 1000000 in
set_option maxRecDepth 100000 in
/-- The text of a builder that holds a byte: the row that holds it is written no more (after the kit's own proof). -/
theorem bstr_ne (L : Go.Proofs.Lays.n169 P ρ) (X : Go.Proofs.Builder.Extra P ρ) (b : Nat) (l : List UInt8) (w : World) (p v : Value) (hbk : w.heap[b]? = some (.cells #[p, v] (ρ.t 72) (0, 0))) (hown : w.ownsRow 0 (ρ.t 5) 1 v l.length (Lib.byteCells l)) (h0 : l ≠ []) :
    Calls P (ρ.f 169) #[.pointer (some ⟨b, 0, none⟩)] w fun e w' => e = .returned (.string ⟨l.toArray⟩) ∧ ∃ q, v.ownBlock = some q ∧ w' = w.drew.freeze ⟨q, 0, none⟩ l.length := by
  have hl0 : l.length ≠ 0 := by simpa using h0
  obtain ⟨g, cap, cur, rfl, hbg, hg, hnc, hcm, hcs, htake⟩ : ∃ g cap cur, v = .slice (some ⟨g, 0, none⟩) l.length cap ∧ 0 ≤ g ∧ w.heap[g]? = some (.cells cur (ρ.t 5) (0, 0)) ∧ l.length ≤ cap ∧ cap ≤ maxLen ∧ cur.size = cap * 1 ∧ cur.toList.take (l.length * 1) = Lib.byteCells l := by
    rcases hown.2 with ⟨_, hz⟩ | ⟨g, cap, cur, hv, r⟩
    · exact absurd hz hl0
    · exact ⟨g, cap, cur, hv, r⟩
  have c1 : w.drew.cell? ⟨b, 1, none⟩ = some (.slice (some ⟨g, 0, none⟩) l.length cap) := by
    have : w.drew.heap[b]? = some (.cells #[p, .slice (some ⟨g, 0, none⟩) l.length cap] (ρ.t 72) (0, 0)) := hbk
    rw [Lib.cell_of_heap this]; rfl
  have hSD : (Builtin.unsafeSliceData_ #[(ρ.t 37)] (ρ.t 127) #[.slice (some ⟨g, 0, none⟩) l.length cap]).run P w.drew = .ok (.pointer (some ⟨g, 0, none⟩)) w.drew :=
    Lib.run_unsafeSliceData_row _ _ _ _ _ _ (by omega)
  have hUS : (Builtin.unsafeString_ #[(ρ.t 127), (ρ.t 3)] (ρ.t 9) #[.pointer (some ⟨g, 0, none⟩), .int .i64 l.length]).run P w.drew = .ok (.string ⟨l.toArray⟩) (w.drew.freeze ⟨g, 0, none⟩ l.length) := by
    refine Lib.run_unsafeString_row w.drew (ρ.t 127) (ρ.t 3) (ρ.t 9) (ρ.t 5) L.t127 X.cellsByte g cur.size (by have hg' : w.drew.heap[g]? = some (.cells cur (ρ.t 5) (0, 0)) := hg; simp [World.shape?, hg']) l h0 (by omega) (by unfold maxLen at hcm; omega) ?_
    intro j x hx
    have := hown.cells (g := g) rfl j (.int .u8 x.toNat) (by simp [Lib.byteCells, hx])
    exact this
  have mixed := L.mixed
  have t72 := L.t72; have a72 := L.a72; have z72 := L.z72; have v72 := L.v72; have u72 := run_underlying L.t72
  have t70 := L.t70; have a70 := L.a70; have z70 := L.z70; have v70 := L.v70; have u70 := run_underlying L.t70
  have t37 := L.t37; have a37 := L.a37; have z37 := L.z37; have v37 := L.v37; have u37 := run_underlying L.t37
  have t127 := L.t127; have a127 := L.a127; have z127 := L.z127; have v127 := L.v127; have u127 := run_underlying L.t127
  have t3 := L.t3; have a3 := L.a3; have z3 := L.z3; have v3 := L.v3; have u3 := run_underlying L.t3
  have t9 := L.t9; have a9 := L.a9; have z9 := L.z9; have v9 := L.v9; have u9 := run_underlying L.t9
  have t5 := X.t5; have a5 := X.a5; have z5 := X.z5; have v5 := X.v5; have u5 := run_underlying X.t5
  go_enter L.f169, Body.n169_ntmps ρ
  go_wp2
  go_region_o
  all_goals (go_wp2; go_ret; exact ⟨rfl, g, rfl, rfl⟩)
theorem bstr_all (L : Go.Proofs.Lays.n169 P ρ) (X : Go.Proofs.Builder.Extra P ρ) (b : Nat) (l : List UInt8) (w : World) (p v : Value) (hbk : w.heap[b]? = some (.cells #[p, v] (ρ.t 72) (0, 0))) (hown : w.ownsRow 0 (ρ.t 5) 1 v l.length (Lib.byteCells l)) :
    Calls P (ρ.f 169) #[.pointer (some ⟨b, 0, none⟩)] w fun e w' => e = .returned (.string ⟨l.toArray⟩) ∧ (Below w.heap.size w w' ∨ ∃ q, v.ownBlock = some q ∧ w' = w.drew.freeze ⟨q, 0, none⟩ l.length) := by
  cases l with
  | cons x r => exact (bstr_ne L X b (x :: r) w p v hbk hown (by simp)).mono fun e w' ⟨h1, h2⟩ => ⟨h1, .inr h2⟩
  | nil =>
    rcases hown.2 with ⟨rfl, _⟩ | ⟨g, cap, cur, rfl, hbg, hg, _, _, _, _⟩
    · exact (Go.Proofs.Any.Builder_String_nil L X w.heap.size b p w hbk).mono fun e w' ⟨h1, h2⟩ => ⟨h1, .inl h2⟩
    · by_cases hc0 : cap = 0
      · subst hc0
        exact (Go.Proofs.Any.Builder_String_noroom L X w.heap.size b g p cur w (Nat.le_refl _) hbk hg).mono fun e w' ⟨h1, h2⟩ => ⟨h1, .inl h2⟩
      · exact (Go.Proofs.Any.Builder_String_room L X w.heap.size b g cap p w hc0 hbk).mono fun e w' ⟨h1, h2⟩ => ⟨h1, .inl h2⟩
end Go.Proofs.Ytdabahipeepheaa
