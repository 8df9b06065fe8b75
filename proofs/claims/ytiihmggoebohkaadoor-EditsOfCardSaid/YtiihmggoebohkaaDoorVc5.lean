/- Verification conditions by symbolic execution: reading memory. -/
import Derived.Test.YtiihmggoebohkaaDoorVc4
namespace Go.Proofs.YtiihmggoebohkaaDoor.Vc
open Go Go.RowKit

theorem tab_und {P : Program} {tab : Tab} (ht : Tab.ok P tab) {t : Nat} {i : TI} (h : tget tab t = some i) : ∃ desc, P.underlying t = some desc ∧ i.d.ok desc := (ht t i h).und
theorem tab_size {P : Program} {tab : Tab} (ht : Tab.ok P tab) {t : Nat} {i : TI} (h : tget tab t = some i) (w : World) : (sizeOf t).run P w = .ok i.size w := by
  obtain ⟨j, z, h1, _, _, h4, _⟩ := (ht t i h).info
  simp [sizeOf, typeInfo, h1, h4]
theorem tab_zero {P : Program} {tab : Tab} (ht : Tab.ok P tab) {t : Nat} {i : TI} (h : tget tab t = some i) (w : World) : ∃ z, (zeroValue t).run P w = .ok z w ∧ z.cells.toList = i.zero := by
  obtain ⟨j, z, h1, h2, h3, _, _⟩ := (ht t i h).info
  exact ⟨z, by simp [zeroValue, typeInfo, h1, h2], h3⟩

theorem run_isAgg {P : Program} {tab : Tab} (ht : Tab.ok P tab) {t : Nat} {i : TI} (h : tget tab t = some i) (w : World) : (isAgg t).run P w = .ok i.d.agg w := by
  obtain ⟨desc, hu, hd⟩ := tab_und ht h
  cases hi : i.d with
  | sl e => rw [hi] at hd; simp only [TD.ok] at hd; subst hd; simp [isAgg, run_underlying hu, TD.agg]
  | st fs => rw [hi] at hd; simp only [TD.ok] at hd; obtain ⟨g, rfl, _⟩ := hd; simp [isAgg, run_underlying hu, TD.agg]
  | arr n e => rw [hi] at hd; simp only [TD.ok] at hd; subst hd; simp [isAgg, run_underlying hu, TD.agg]
  | str => rw [hi] at hd; simp only [TD.ok] at hd; subst hd; simp [isAgg, run_underlying hu, TD.agg]
  | int k => rw [hi] at hd; simp only [TD.ok] at hd; subst hd; simp [isAgg, run_underlying hu, TD.agg]
  | ifc => rw [hi] at hd; simp only [TD.ok] at hd; obtain ⟨ms, rfl⟩ := hd; simp [isAgg, run_underlying hu, TD.agg]
  | sc =>
    rw [hi] at hd; simp only [TD.ok] at hd
    cases desc <;> first | exact hd.elim | simp [isAgg, run_underlying hu, TD.agg]

theorem run_loadCellsFrom {P : Program} (w : World) (b : Nat) : ∀ (n i o : Nat) (acc : Array Value) (vs : List Value), vs.length = n → (∀ j u, vs[j]? = some u → w.cell? ⟨b, o + i + j, none⟩ = some u) →
    (loadCellsFrom ⟨b, o, none⟩ i n acc).run P w = .ok (acc ++ vs.toArray) w
  | 0, i, o, acc, vs, hl, hc => by
    have : vs = [] := List.eq_nil_of_length_eq_zero hl
    subst this; simp [loadCellsFrom]
  | n + 1, i, o, acc, vs, hl, hc => by
    match vs, hl with
    | u :: r, hl =>
      have h0 := hc 0 u (by simp)
      have ha : (⟨b, o, none⟩ : Addr).add i = ⟨b, o + i, none⟩ := Addr.add_lit b o i
      have ih := run_loadCellsFrom (P := P) w b n (i + 1) o (acc.push u) r (by simpa using hl) (fun j u' hu => by
        have := hc (j + 1) u' (by simpa using hu)
        rwa [show o + i + (j + 1) = o + (i + 1) + j by omega] at this)
      simp only [loadCellsFrom, ha]
      simp only [Nat.add_zero] at h0
      simp [h0, ih]
theorem run_loadCells {P : Program} (w : World) (b o : Nat) (vs : List Value) (hc : ∀ j u, vs[j]? = some u → w.cell? ⟨b, o + j, none⟩ = some u) :
    (loadCells ⟨b, o, none⟩ vs.length).run P w = .ok vs.toArray w := by
  have := run_loadCellsFrom (P := P) w b vs.length 0 o #[] vs rfl (by simpa using hc)
  simpa [loadCells] using this

/-- What a chunk holds there. -/
theorem cont_sound {B : Bs} {ρ : List Loc} {m : Mem} {w : World} (h : MSat B ρ m w) {c i : Nat} {K : List SV → Prop} (hk : cont (mget m c) i K) :
    ∃ l L vs, K l ∧ ρ[c]? = some L ∧ RelL ρ l vs ∧ (∀ x ∈ vs, x.oneCell' = true) ∧ ∀ j u, vs[j]? = some u → w.cell? ⟨L.blk, L.off + i * L.sz + j, none⟩ = some u := by
  have hc := h.ch c
  cases e : mget m c with
  | non => rw [e] at hk; exact hk.elim
  | box t l =>
    rw [e] at hk hc
    simp only [cont] at hk
    cases hb : Nat.beq i 0 with
    | false => rw [hb] at hk; exact hk.elim
    | true =>
      rw [hb] at hk
      have := Nat.eq_of_beq_eq_true hb
      subst this
      obtain ⟨L, vs, h1, h2, h3, h4, h5, h6, _⟩ := hc
      refine ⟨l, L, vs, hk, h1, h5, h6, fun j u hu => ?_⟩
      rw [h2]
      simp only [Nat.zero_mul, Nat.zero_add]
      simp [World.cell?, h4, hu]
  | ro sz n f =>
    rw [e] at hk hc
    obtain ⟨hi, hk⟩ := hk
    rw [frc_eq] at hk
    obtain ⟨L, h1, h2, h3, h4⟩ := hc
    obtain ⟨vs, r, q1, q2, q3⟩ := h4 i hi
    exact ⟨f i, L, vs, hk, h1, r, q2, fun j u hu => by rw [h2]; exact q3 j u hu⟩
  | own et sz n f =>
    rw [e] at hk hc
    obtain ⟨hi, hk⟩ := hk
    rw [frc_eq] at hk
    obtain ⟨L, vs, h1, h2, h3, h4, h5, h6, h7⟩ := hc
    refine ⟨f i, L, _, hk, h1, h7 i hi, fun x hx => h6 x (List.mem_of_mem_drop (List.mem_of_mem_take hx)), fun j u hu => ?_⟩
    have hj : j < sz := by
      rcases Nat.lt_or_ge j sz with hlt | hge
      · exact hlt
      · rw [List.getElem?_take, if_neg (by omega)] at hu; cases hu
    rw [List.getElem?_take_of_lt hj, List.getElem?_drop] at hu
    have hpos : 0 < n := by omega
    rcases h4.2 with ⟨_, hn⟩ | ⟨g, cap, cur, hv, _⟩
    · omega
    · have hg : L.own.ownBlock = some g := by rw [hv]; rfl
      have hc := h4.cells (g := g) hg (i * sz + j) u hu
      rw [Addr.add_lit] at hc
      rw [h3, h2, (h5 g hg).1]
      simpa using hc

theorem ldL_sound2 {P : Program} {tab : Tab} (ht : Tab.ok P tab) {T : Nat} {l : List SV} {o : Nat} {K : SV → Prop} (hk : ldL tab T l o K) {ρ : List Loc} {vs : List Value} (hr : RelL ρ l vs) (h1 : ∀ x ∈ vs, x.oneCell' = true)
    (b p : Nat) : ∃ v x, (∀ w : World, (∀ j u, vs[j]? = some u → w.cell? ⟨b, p + j, none⟩ = some u) → (loadVar T ⟨b, p + o, none⟩).run P w = .ok v w) ∧ Rel ρ x v ∧ K x := by
  unfold ldL at hk
  cases hT : tget tab T with
  | none => rw [hT] at hk; exact hk.elim
  | some i =>
    rw [hT] at hk
    simp only at hk
    have hag0 := fun w => run_isAgg ht hT w
    have hsz0 := fun w => tab_size ht hT w
    have agg : i.d.agg = true → (match seg l o i.size with | some q => K (.a q) | none => False) → ∃ v x, (∀ w : World, (∀ j u, vs[j]? = some u → w.cell? ⟨b, p + j, none⟩ = some u) → (loadVar T ⟨b, p + o, none⟩).run P w = .ok v w) ∧ Rel ρ x v ∧ K x := by
      intro ha hk
      cases hs : seg l o i.size with
      | none => rw [hs] at hk; exact hk.elim
      | some q =>
        rw [hs] at hk
        obtain ⟨rfl, hle⟩ := seg_eq hs
        have hr' := (hr.drop o).take i.size
        have hlen : ((vs.drop o).take i.size).length = i.size := by
          have := hr.length
          simp; omega
        refine ⟨.agg ((vs.drop o).take i.size).toArray, _, fun w hc => ?_, ?_, hk⟩
        · have hag := hag0 w
          rw [ha] at hag
          have hsz := hsz0 w
          have hl := run_loadCells (P := P) w b (p + o) ((vs.drop o).take i.size) (fun j u hu => by
            have hj : j < i.size := by
              rcases Nat.lt_or_ge j i.size with hlt | hge
              · exact hlt
              · rw [List.getElem?_take, if_neg (by omega)] at hu; cases hu
            rw [List.getElem?_take_of_lt hj, List.getElem?_drop] at hu
            have := hc (o + j) u hu
            rwa [← Nat.add_assoc] at this)
          rw [hlen] at hl
          simp [loadVar, hag, hsz, hl]
        · simp only [Rel]
          exact ⟨_, rfl, hr', fun x hx => h1 x (List.mem_of_mem_drop (List.mem_of_mem_take hx))⟩
    have one : i.d.agg = false → (match nth l o with | some x => K x | none => False) → ∃ v x, (∀ w : World, (∀ j u, vs[j]? = some u → w.cell? ⟨b, p + j, none⟩ = some u) → (loadVar T ⟨b, p + o, none⟩).run P w = .ok v w) ∧ Rel ρ x v ∧ K x := by
      intro ha hk
      cases hs : nth l o with
      | none => rw [hs] at hk; exact hk.elim
      | some x =>
        rw [hs] at hk
        rw [nth_eq] at hs
        obtain ⟨v, hv, hx⟩ := hr.get hs
        exact ⟨v, x, fun w hc => by have hag := hag0 w; rw [ha] at hag; simp [loadVar, hag, hc o v hv], hx, hk⟩
    cases hi : i.d with
    | sl e => rw [hi] at hk; exact one (by rw [hi]; rfl) hk
    | st fs => rw [hi] at hk; exact agg (by rw [hi]; rfl) hk
    | arr n e => rw [hi] at hk; exact agg (by rw [hi]; rfl) hk
    | str => rw [hi] at hk; exact one (by rw [hi]; rfl) hk
    | int k => rw [hi] at hk; exact one (by rw [hi]; rfl) hk
    | ifc => rw [hi] at hk; exact one (by rw [hi]; rfl) hk
    | sc => rw [hi] at hk; exact one (by rw [hi]; rfl) hk

theorem ldL_sound {P : Program} {tab : Tab} (ht : Tab.ok P tab) {T : Nat} {l : List SV} {o : Nat} {K : SV → Prop} (hk : ldL tab T l o K) {ρ : List Loc} {vs : List Value} (hr : RelL ρ l vs) (h1 : ∀ x ∈ vs, x.oneCell' = true)
    {w : World} {b p : Nat} (hc : ∀ j u, vs[j]? = some u → w.cell? ⟨b, p + j, none⟩ = some u) : ∃ v x, (loadVar T ⟨b, p + o, none⟩).run P w = .ok v w ∧ Rel ρ x v ∧ K x := by
  obtain ⟨v, x, q1, q2, q3⟩ := ldL_sound2 ht hk hr h1 b p
  exact ⟨v, x, q1 w hc, q2, q3⟩

/-- A part of a struct or an array that lies in no memory. -/
theorem part_sound {P : Program} {tab : Tab} (ht : Tab.ok P tab) {T : Nat} {l : List SV} {o : Nat} {K : SV → Prop} (hk : ldL tab T l o K) {ρ : List Loc} {vs : List Value} (hr : RelL ρ l vs) (h1 : ∀ x ∈ vs, x.oneCell' = true)
    (w : World) : ∃ v x, (part T vs.toArray o).run P w = .ok v w ∧ Rel ρ x v ∧ K x := by
  unfold ldL at hk
  cases hT : tget tab T with
  | none => rw [hT] at hk; exact hk.elim
  | some i =>
    rw [hT] at hk
    simp only at hk
    have hag := run_isAgg ht hT w
    have hsz := tab_size ht hT w
    have agg : i.d.agg = true → (match seg l o i.size with | some q => K (.a q) | none => False) → ∃ v x, (part T vs.toArray o).run P w = .ok v w ∧ Rel ρ x v ∧ K x := by
      intro ha hk
      rw [ha] at hag
      cases hs : seg l o i.size with
      | none => rw [hs] at hk; exact hk.elim
      | some q =>
        rw [hs] at hk
        obtain ⟨rfl, hle⟩ := seg_eq hs
        have hr' := (hr.drop o).take i.size
        refine ⟨.agg ((vs.drop o).take i.size).toArray, _, ?_, ?_, hk⟩
        · simp only [part, Sem.run_bind, hag, hsz, Result.andThen_ok, if_true]
          simp [List.take_drop]
        · simp only [Rel]
          exact ⟨_, rfl, hr', fun x hx => h1 x (List.mem_of_mem_drop (List.mem_of_mem_take hx))⟩
    have one : i.d.agg = false → (match nth l o with | some x => K x | none => False) → ∃ v x, (part T vs.toArray o).run P w = .ok v w ∧ Rel ρ x v ∧ K x := by
      intro ha hk
      rw [ha] at hag
      cases hs : nth l o with
      | none => rw [hs] at hk; exact hk.elim
      | some x =>
        rw [hs] at hk
        rw [nth_eq] at hs
        obtain ⟨v, hv, hx⟩ := hr.get hs
        exact ⟨v, x, by simp [part, hag, hv], hx, hk⟩
    cases hi : i.d with
    | sl e => rw [hi] at hk; exact one (by rw [hi]; rfl) hk
    | st fs => rw [hi] at hk; exact agg (by rw [hi]; rfl) hk
    | arr n e => rw [hi] at hk; exact agg (by rw [hi]; rfl) hk
    | str => rw [hi] at hk; exact one (by rw [hi]; rfl) hk
    | int k => rw [hi] at hk; exact one (by rw [hi]; rfl) hk
    | ifc => rw [hi] at hk; exact one (by rw [hi]; rfl) hk
    | sc => rw [hi] at hk; exact one (by rw [hi]; rfl) hk
end Go.Proofs.YtiihmggoebohkaaDoor.Vc
