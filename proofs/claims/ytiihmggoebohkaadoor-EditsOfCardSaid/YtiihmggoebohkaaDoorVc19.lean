/- Verification conditions by symbolic execution: a call, by the callee's contract: what its caller goes on with. -/
import Derived.Test.YtiihmggoebohkaaDoorVc18
namespace Go.Proofs.YtiihmggoebohkaaDoor.Vc
open Go Go.RowKit

section
variable {B B0 : Bs} {ρ ρ1 ρ' : List Loc} {m m' mem : Mem} {w w' : World} {k : List Kp} {n0 n b : Nat}

theorem occ_ren {c d x : Nat} {L : Loc} {ch : Ch} (h1 : ρ1[c]? = some L) (h2 : ρ'[d]? = some L) (o : Occ ρ' d (renC k n0 b ch) x) : Occ ρ1 c ch x := by
  cases ch with
  | non => exact o
  | ro sz n f =>
    obtain ⟨hn, L', hL, hb⟩ := o
    rw [h2] at hL; cases hL
    exact ⟨hn, L, h1, hb⟩
  | own e sz n f =>
    obtain ⟨L', hL, hb⟩ := o
    rw [h2] at hL; cases hL
    exact ⟨L, h1, hb⟩
  | box t l =>
    obtain ⟨L', hL, hb⟩ := o
    rw [h2] at hL; cases hL
    exact ⟨L, h1, hb⟩
theorem renC_wr {ch : Ch} (h : (renC k n0 b ch).wr = true) : ch.wr = true := by
  cases ch <;> first | exact h | rfl

/-- Each of the callee's chunks is one of the caller's, or lies nowhere. -/
def inK (b : Nat) : List Kp → Bool
  | [] => true
  | .at d _ :: r => Nat.blt d b && inK b r
  | .nul _ :: r => inK b r
  | .nil _ :: r => inK b r
theorem inK_get : ∀ {k : List Kp}, inK b k = true → ∀ {c d e}, kAt k c = some (.at d e) → d < b
  | [], _, c, d, e, hk => by simp [kAt] at hk
  | .at d' e' :: r, h, c, d, e, hk => by
    simp only [inK, Bool.and_eq_true] at h
    cases c with
    | zero => simp only [kAt] at hk; cases hk; exact blt_lt h.1
    | succ c => exact inK_get h.2 hk
  | .nil _ :: r, h, c, d, e, hk => by
    simp only [inK] at h
    cases c with
    | zero => simp only [kAt] at hk; cases hk
    | succ c => exact inK_get h hk
  | .nul _ :: r, h, c, d, e, hk => by
    simp only [inK] at h
    cases c with
    | zero => simp only [kAt] at hk; cases hk
    | succ c => exact inK_get h hk

/-- Behind the call. -/
theorem leave_msat (h : MSat B ρ m w) (hsim : simM k m mem) (hwr : wrOk k mem = true) (hin : inK b k = true) (hnk : k.length = n0)
    (h' : MSat ⟨w, calleeX ρ k mem, kLoc ρ k, B.glob⟩ ρ1 m' w') (hn : ρ1.length = n) (hb : ρ.length = b) :
    Ext ρ (ρ ++ ρ1.drop n0) ∧ (ρ ++ ρ1.drop n0).length = b + (n - n0) ∧ Fits k n0 b ρ1 (ρ ++ ρ1.drop n0) ∧ MSat B (ρ ++ ρ1.drop n0) (newM k n0 b m' n0 b (n - n0) (wrM k n0 b m' mem m)) w' := by
  have e := Ext.app ρ (ρ1.drop n0)
  have hlen : (kLoc ρ k).length = n0 := by rw [kLoc_len, hnk]
  have newloc : ∀ c, n0 ≤ c → (ρ ++ ρ1.drop n0)[b + (c - n0)]? = ρ1[c]? := by
    intro c hc
    rw [List.getElem?_append_right (by omega), List.getElem?_drop]
    congr 1; omega
  have old : ∀ {c d e'}, kAt k c = some (.at d e') → ∃ L', ρ[d]? = some L' ∧ ρ1[c]? = some (L'.shift e') := by
    intro c d e' hk
    have hlt : d < ρ.length := by rw [hb]; exact inK_get hin hk
    refine ⟨_, List.getElem?_eq_getElem hlt, ?_⟩
    exact h'.ext c _ (kLoc_at hk (List.getElem?_eq_getElem hlt))
  have fits : Fits k n0 b ρ1 (ρ ++ ρ1.drop n0) := by
    intro c L hL d e' hk
    unfold kAll at hk
    cases hc : Nat.blt c n0 with
    | true =>
      rw [hc] at hk
      obtain ⟨L', hL', h1⟩ := old hk
      rw [hL] at h1; cases h1
      exact ⟨L', e d L' hL', rfl⟩
    | false =>
      rw [hc] at hk
      simp only [cond_false, Option.some.injEq, Kp.at.injEq] at hk
      obtain ⟨rfl, rfl⟩ := hk
      have hge : n0 ≤ c := by
        rcases Nat.lt_or_ge c n0 with h | h
        · have : Nat.blt c n0 = true := by simpa [Nat.blt_eq] using h
          rw [hc] at this; cases this
        · exact h
      exact ⟨L, by rw [newloc c hge]; exact hL, (Loc.shift_zero L).symm⟩
  have hn0 : n0 ≤ n := by
    rcases Nat.eq_zero_or_pos n0 with h0 | h0
    · omega
    · have hlt : n0 - 1 < (kLoc ρ k).length := by omega
      have := h'.ext (n0 - 1) _ (List.getElem?_eq_getElem hlt)
      have := (List.getElem?_eq_some_iff.1 this).1
      omega
  refine ⟨e, by simp; omega, fits, ?_⟩
  -- a chunk that was handed over to be written, as its caller holds it
  have wold : ∀ {c ch d e'}, (c, ch) ∈ mem → ch.wr = true → kAt k c = some (.at d e') → e' = 0 ∧ (mget m d).wr = true ∧ (∀ t l, ch = .box t l → ∃ t' l', mget m d = .box t' l') ∧ (∀ t sz n f, ch = .own t sz n f → ∃ t' sz' n' f', mget m d = .own t' sz' n' f') ∧ ∀ x, Occ (kLoc ρ k) c ch x → Occ ρ d (mget m d) x := by
    intro c ch d e' hm hw hk
    obtain ⟨y, hk2, hs⟩ := simM_mem hsim hm
    rw [hk] at hk2; cases hk2
    obtain ⟨_, q2, q3⟩ := simC_sound h.ch hk hs
    have hwd : (mget m d).wr = true := by
      rcases q3 hw with ⟨d2, e2, he, hw2⟩ | ⟨z, he⟩
      · cases he; exact hw2
      · cases he
    unfold simC at hs
    cases ch with
    | non => cases hw
    | ro sz n f => cases hw
    | own t sz n f =>
      simp only at hs
      split at hs
      · rename_i t' sz' n' f' hmd
        refine ⟨?_, hwd, fun _ _ h => (by cases h), fun _ _ _ _ _ => ⟨t', sz', n', f', hmd⟩, fun x o => q2 x o⟩
        cases hbb : (Nat.beq t t' && Nat.beq sz sz' && Nat.beq e' 0) with
        | false => rw [hbb] at hs; exact hs.elim
        | true => simp only [Bool.and_eq_true] at hbb; exact Nat.eq_of_beq_eq_true hbb.2
      · exact hs.elim
    | box t l =>
      simp only at hs
      split at hs
      · rename_i t' l' hmd
        refine ⟨?_, hwd, fun _ _ _ => ⟨t', l', hmd⟩, fun _ _ _ _ h => (by cases h), fun x o => q2 x o⟩
        cases hbb : (Nat.beq t t' && Nat.beq e' 0) with
        | false => rw [hbb] at hs; exact hs.elim
        | true => simp only [Bool.and_eq_true] at hbb; exact Nat.eq_of_beq_eq_true hbb.2
      · exact hs.elim
  -- what stays
  have stay : ∀ x, x < w.heap.size → ¬ calleeX ρ k mem x → w'.heap[x]? = w.heap[x]? := fun x hx hnx => h'.frm.block x hx hnx
  have xocc : ∀ x, calleeX ρ k mem x → ∃ c d ch, (c, ch) ∈ mem ∧ ch.wr = true ∧ kAt k c = some (.at d 0) ∧ (mget m d).wr = true ∧ Occ ρ d (mget m d) x := by
    rintro x ⟨c, ch, hm, hw, o⟩
    obtain ⟨d, e', hk, _⟩ := wrOk_at hwr hm hw
    obtain ⟨rfl, hwd, _, _, ho⟩ := wold hm hw hk
    exact ⟨c, d, ch, hm, hw, hk, hwd, ho x o⟩
  -- the chunks one by one
  have gnew : ∀ d, b ≤ d → d < b + (n - n0) → mget (newM k n0 b m' n0 b (n - n0) (wrM k n0 b m' mem m)) d = renC k n0 b (mget m' (n0 + (d - b))) := by
    intro d h1 h2; rw [newM_get, if_pos ⟨h1, h2⟩]
  have gold : ∀ d, ¬ (b ≤ d ∧ d < b + (n - n0)) → mget (newM k n0 b m' n0 b (n - n0) (wrM k n0 b m' mem m)) d = mget (wrM k n0 b m' mem m) d := by
    intro d h1; rw [newM_get, if_neg h1]
  -- an old chunk: it holds; it lies where it lay; it is one that was handed over (then it is what the callee left there), or none of those
  have oldch : ∀ d, ChSat B (ρ ++ ρ1.drop n0) w' d (mget (wrM k n0 b m' mem m) d) ∧ (∀ x, Occ (ρ ++ ρ1.drop n0) d (mget (wrM k n0 b m' mem m) d) x → Occ ρ d (mget m d) x) ∧
      ((mget (wrM k n0 b m' mem m) d).wr = true → (mget m d).wr = true) ∧
      (∀ c ch, (c, ch) ∈ mem → ch.wr = true → kAt k c = some (.at d 0) → ∀ x, Occ (ρ ++ ρ1.drop n0) d (mget (wrM k n0 b m' mem m) d) x → Occ ρ1 c (mget m' c) x ∧ (mget m' c).wr = true) := by
    intro d
    rcases wrM_get (k := k) (n0 := n0) (b := b) (m' := m') m d mem with ⟨c, ch, e', hm, hw, hk, hg⟩ | ⟨hno, hg⟩
    · rw [hg]
      obtain ⟨rfl, hwd, hbx, how, ho⟩ := wold hm hw hk
      have same : ∀ c' ch', (c', ch') ∈ mem → ch'.wr = true → kAt k c' = some (.at d 0) → c' = c := by
        intro c' ch' hm' hw' hk'
        obtain ⟨d2, e2, hk2, hoth⟩ := wrOk_at hwr hm hw
        rw [hk] at hk2; cases hk2
        rcases Nat.decEq c' c with hne | he
        · exact absurd hk' (hoth c' 0 hne)
        · exact he
      have hc := h'.ch c
      obtain ⟨L', hL', hL1⟩ := old hk
      rw [Loc.shift_zero] at hL1
      have hd := h.ch d
      cases hch : mget m' c with
      | box t2 l2 =>
        cases ch with
        | non => cases hw
        | ro sz q f => cases hw
        | own t sz q f => exact ⟨trivial, fun x o => o.elim, fun hw => (by cases hw), fun _ _ _ _ _ x o => o.elim⟩
        | box t l =>
          obtain ⟨t', l', hmd⟩ := hbx t l rfl
          rw [hch] at hc
          rw [hmd] at hd
          obtain ⟨L, vs, k1, k2, k3, k4, k5, k6, _⟩ := hc
          rw [hL1] at k1; cases k1
          obtain ⟨L2, us, j1, j2, j3, j4, j5, j6, j7⟩ := hd
          rw [hL'] at j1; cases j1
          refine ⟨⟨L', vs, e d L' hL', k2, by have q1 := k5.length; have q2 := (renL1_sound fits k5).length; omega, k4, renL1_sound fits k5, k6, j7⟩, fun x o => ?_, fun _ => hwd, fun c' ch' hm' hw' hk' x o => ?_⟩
          · obtain ⟨L3, h3, h4⟩ := o
            rw [e d L' hL'] at h3; cases h3
            rw [hmd]
            exact ⟨L', hL', h4⟩
          · have := same c' ch' hm' hw' hk'
            subst this
            rw [hch]
            obtain ⟨L3, h3, h4⟩ := o
            rw [e d L' hL'] at h3; cases h3
            exact ⟨⟨L', hL1, h4⟩, rfl⟩
      | own t2 sz2 q2 f2 =>
        cases ch with
        | non => cases hw
        | ro sz q f => cases hw
        | box t l => exact ⟨trivial, fun x o => o.elim, fun hw => (by cases hw), fun _ _ _ _ _ x o => o.elim⟩
        | own t sz q f =>
          obtain ⟨t', sz', n', f', hmd⟩ := how t sz q f rfl
          rw [hch] at hc
          rw [hmd] at hd
          obtain ⟨L, vs, k1, k2, k3, k4, k5, k6, k7⟩ := hc
          rw [hL1] at k1; cases k1
          obtain ⟨L2, us, j1, j2, j3, j4, j5, j6, j7⟩ := hd
          rw [hL'] at j1; cases j1
          refine ⟨⟨L', vs, e d L' hL', k2, k3, k4, j5, k6, fun i hi => renL1_sound fits (k7 i hi)⟩, fun x o => ?_, fun _ => hwd, fun c' ch' hm' hw' hk' x o => ?_⟩
          · obtain ⟨L3, h3, h4⟩ := o
            rw [e d L' hL'] at h3; cases h3
            rw [hmd]
            exact ⟨L', hL', h4⟩
          · have := same c' ch' hm' hw' hk'
            subst this
            rw [hch]
            obtain ⟨L3, h3, h4⟩ := o
            rw [e d L' hL'] at h3; cases h3
            exact ⟨⟨L', hL1, h4⟩, rfl⟩
      | non => cases ch <;> exact ⟨trivial, fun x o => o.elim, fun hw => (by cases hw), fun _ _ _ _ _ x o => o.elim⟩
      | ro sz q f => cases ch <;> exact ⟨trivial, fun x o => o.elim, fun hw => (by cases hw), fun _ _ _ _ _ x o => o.elim⟩
    · rw [hg]
      have hd := h.ch d
      have back : ∀ x, Occ (ρ ++ ρ1.drop n0) d (mget m d) x → Occ ρ d (mget m d) x := by
        intro x o
        rcases hd.loc with hn | ⟨L, hL⟩
        · rw [hn] at o; exact o.elim
        · exact o.back e hL
      refine ⟨(hd.keep (fun x o => stay x (h.occ_lt o) (fun hx => ?_)) h'.frm.size).mono e, back, fun hw => hw, fun c ch hm hw hk => absurd hk (hno c ch 0 hm hw)⟩
      obtain ⟨c, d', ch, hm, hw, hk, hwd, o'⟩ := xocc x hx
      have hdd : d' ≠ d := fun he => by subst he; exact hno c ch 0 hm hw hk
      exact h.sep d' d x hdd hwd o' o
  have newfr : ∀ c, n0 ≤ c → ∀ x, Occ ρ1 c (mget m' c) x → w.heap.size ≤ x ∨ calleeX ρ k mem x := fun c hc x o => h'.fresh c x (by rw [hlen]; exact hc) o
  have may : ∀ x, (w.heap.size ≤ x ∨ calleeX ρ k mem x) → B.May x := by
    intro x hx
    rcases hx with hx | hx
    · exact .inl (Nat.le_trans h.frm.size hx)
    · obtain ⟨c, d, ch, hm, hw, hk, hwd, o⟩ := xocc x hx
      have hd := h.ch d
      cases hmd : mget m d with
      | non => rw [hmd] at hwd; cases hwd
      | ro sz q f => rw [hmd] at hwd; cases hwd
      | own t sz q f =>
        rw [hmd] at hd o
        obtain ⟨L, vs, j1, _, _, _, j5, _⟩ := hd
        obtain ⟨L2, j8, j9⟩ := o
        rw [j1] at j8; cases j8
        exact (j5 x j9).2
      | box t l =>
        rw [hmd] at hd o
        obtain ⟨L, vs, j1, _, _, _, _, _, j7⟩ := hd
        obtain ⟨L2, j8, j9⟩ := o
        rw [j1] at j8; cases j8
        rw [← j9]; exact j7
  have newch : ∀ c, n0 ≤ c → ChSat B (ρ ++ ρ1.drop n0) w' (b + (c - n0)) (renC k n0 b (mget m' c)) ∧ (∀ x, Occ (ρ ++ ρ1.drop n0) (b + (c - n0)) (renC k n0 b (mget m' c)) x → Occ ρ1 c (mget m' c) x) := by
    intro c hc
    have hch := h'.ch c
    have hfr := newfr c hc
    cases hm : mget m' c with
    | non => exact ⟨trivial, fun x o => o.elim⟩
    | ro sz q f =>
      rw [hm] at hch
      obtain ⟨L, h1, h2, h3, h4⟩ := hch
      have hl : (ρ ++ ρ1.drop n0)[b + (c - n0)]? = some L := by rw [newloc c hc]; exact h1
      refine ⟨⟨L, hl, h2, h3, fun i hi => ?_⟩, fun x o => occ_ren h1 hl o⟩
      obtain ⟨vs, r1, r2⟩ := h4 i hi
      exact ⟨vs, renL1_sound fits r1, r2⟩
    | own t sz q f =>
      rw [hm] at hch
      obtain ⟨L, vs, h1, h2, h3, h4, h5, h6, h7⟩ := hch
      have hl : (ρ ++ ρ1.drop n0)[b + (c - n0)]? = some L := by rw [newloc c hc]; exact h1
      refine ⟨⟨L, vs, hl, h2, h3, h4, fun x hx => ⟨(h5 x hx).1, may x (hfr x ?_)⟩, h6, fun i hi => renL1_sound fits (h7 i hi)⟩, fun x o => occ_ren h1 hl o⟩
      rw [hm]; exact ⟨L, h1, hx⟩
    | box t l =>
      rw [hm] at hch
      obtain ⟨L, vs, h1, h2, h3, h4, h5, h6, _⟩ := hch
      have hl : (ρ ++ ρ1.drop n0)[b + (c - n0)]? = some L := by rw [newloc c hc]; exact h1
      refine ⟨⟨L, vs, hl, h2, by have q1 := h5.length; have q2 := (renL1_sound fits h5).length; omega, h4, renL1_sound fits h5, h6, may _ (hfr L.blk ?_)⟩, fun x o => occ_ren h1 hl o⟩
      rw [hm]; exact ⟨L, h1, rfl⟩
  have split : ∀ d, (b ≤ d ∧ d < b + (n - n0)) → ∃ c, n0 ≤ c ∧ d = b + (c - n0) ∧ n0 + (d - b) = c := fun d hd => ⟨n0 + (d - b), by omega, by omega, rfl⟩
  -- a new chunk and an old one lie apart
  have apart : ∀ c, n0 ≤ c → ∀ d x, ((renC k n0 b (mget m' c)).wr = true ∨ (mget (wrM k n0 b m' mem m) d).wr = true) → Occ (ρ ++ ρ1.drop n0) (b + (c - n0)) (renC k n0 b (mget m' c)) x → Occ (ρ ++ ρ1.drop n0) d (mget (wrM k n0 b m' mem m) d) x → False := by
    intro c hc d x hw o o'
    have o1 := (newch c hc).2 x o
    obtain ⟨_, q2, q3, q4⟩ := oldch d
    have o2 := q2 x o'
    rcases newfr c hc x o1 with hx | hx
    · have := h.occ_lt o2; omega
    · obtain ⟨c0, d0, ch0, hm0, hw0, hk0, hwd0, od0⟩ := xocc x hx
      by_cases hd : d0 = d
      · subst hd
        obtain ⟨o3, hw3⟩ := q4 c0 ch0 hm0 hw0 hk0 x o'
        have hlt : c0 < n0 := by
          rw [kAt_eq] at hk0
          have := (List.getElem?_eq_some_iff.1 hk0).1
          omega
        exact h'.sep c0 c x (by omega) hw3 o3 o1
      · exact h.sep d0 d x hd hwd0 od0 o2
  refine ⟨fun d => ?_, fun d d' x hne hw o o' => ?_, ?_, h.ext.trans e, h.glb, fun d x hd o => ?_⟩
  · by_cases hd : b ≤ d ∧ d < b + (n - n0)
    · obtain ⟨c, hc, rfl, hc2⟩ := split d hd
      rw [gnew _ hd.1 hd.2, hc2]
      exact (newch c hc).1
    · rw [gold d hd]; exact (oldch d).1
  · by_cases hd : b ≤ d ∧ d < b + (n - n0)
    · obtain ⟨c, hc, rfl, hc2⟩ := split d hd
      rw [gnew _ hd.1 hd.2, hc2] at hw o
      by_cases hd' : b ≤ d' ∧ d' < b + (n - n0)
      · obtain ⟨c', hc', rfl, hc2'⟩ := split d' hd'
        rw [gnew _ hd'.1 hd'.2, hc2'] at o'
        exact h'.sep c c' x (fun e => hne (by rw [e])) (renC_wr hw) ((newch c hc).2 x o) ((newch c' hc').2 x o')
      · rw [gold d' hd'] at o'
        exact apart c hc d' x (.inl hw) o o'
    · rw [gold d hd] at hw o
      by_cases hd' : b ≤ d' ∧ d' < b + (n - n0)
      · obtain ⟨c', hc', rfl, hc2'⟩ := split d' hd'
        rw [gnew _ hd'.1 hd'.2, hc2'] at o'
        exact apart c' hc' d x (.inr hw) o' o
      · rw [gold d' hd'] at o'
        exact h.sep d d' x hne ((oldch d).2.2.1 hw) ((oldch d).2.1 x o) ((oldch d').2.1 x o')
  · refine h.frm.step h'.frm.os h'.frm.tape h'.frm.output h'.frm.size (fun x hx hnx => stay x (Nat.lt_of_lt_of_le hx h.frm.size) (fun hX => ?_))
    rcases may x (.inr hX) with j7 | j7
    · omega
    · exact hnx j7
  · by_cases hd2 : b ≤ d ∧ d < b + (n - n0)
    · obtain ⟨c, hc, rfl, hc2⟩ := split d hd2
      rw [gnew _ hd2.1 hd2.2, hc2] at o
      exact may x (newfr c hc x ((newch c hc).2 x o))
    · rw [gold d hd2] at o
      exact h.fresh d x hd ((oldch d).2.1 x o)

theorem klen_eq {k : List Kp} {n : Nat} (h : Nat.beq k.length n = true) : k.length = n := Nat.eq_of_beq_eq_true h

/-- What a call owes its callee's contract; what its caller goes on with. -/
structure CallOk (k : List Kp) (svs : List SV) (s : St) (args : List SV) (mem : Mem) (nx : Nat) : Prop where
  hargs : simL2 k s.mem args svs
  hmem : simM k s.mem mem
  hwr : wrOk k mem = true
  hin : inK s.nx k = true
  hlen : Nat.beq k.length nx = true
theorem call_rule {Γ : Cx} {g : Nat} {args svs : List SV} {nx : Nat} {Q : SV → Mem → Nat → Prop} {s : St} {K : SV → St → Prop} (k : List Kp) {G : List (Nat × Value)} (hs : Con Γ.P G g args mem nx Q) (hG : Γ.B.glob = G) (hc : CallOk k svs s args mem nx)
    (hK : ∀ x m' n, Q x m' n → fnat s.nx fun b => fmem (newM k nx b m' nx b (n - nx) (wrM k nx b m' mem s.mem)) fun M => fnat (b + (n - nx)) fun b1 => K (ren3 k nx b x) ⟨s.fr, M, b1⟩) : CallP Γ g svs s K := by
  refine ⟨hs.1, fun ρ a w vs H hrel => ?_⟩
  have hlen := Nat.eq_of_beq_eq_true hc.hlen
  refine (hs.2 ⟨w, calleeX ρ k mem, kLoc ρ k, Γ.B.glob⟩ w vs rfl hG (by rw [kLoc_len]; exact hlen) (enter_msat H.mem hc.hmem hc.hwr) (simL2_sound H.mem.ch hc.hargs hrel)).mono ?_
  rintro e w' ⟨v, x, m', n, ρ1, rfl, hq, hn, hx, hm⟩
  obtain ⟨h1, h2, h3, h4⟩ := leave_msat H.mem hc.hmem hc.hwr (by rw [H.nx]; exact hc.hin) hlen hm hn rfl
  rw [H.nx] at h2 h3 h4
  have hk := hK x m' n hq
  simp only [fnat_eq, fmem_eq] at hk
  refine ⟨v, _, _, _, rfl, h1, ren3_sound h3 hx, hk, ⟨h2, fun t => (H.fr t).mono h1, H.size, H.dfr, h4⟩⟩
end
end Go.Proofs.YtiihmggoebohkaaDoor.Vc
