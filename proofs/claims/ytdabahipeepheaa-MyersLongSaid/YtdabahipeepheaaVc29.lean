/- Verification conditions by symbolic execution: regions whose order is open: an order that branches where two operations are ready that touch memory. -/
import Derived.Test.YtdabahipeepheaaVc27
namespace Go.Proofs.Ytdabahipeepheaa.Vc
open Go Go.RowKit

/-- An order, branching. -/
inductive Ord where
  | nil
  | early (k : Nat) (r : Ord)
  | late (k : Nat) (r : Ord)
  | fork (k1 : Nat) (r1 : Ord) (k2 : Nat) (r2 : Ord)
  | fork3 (k1 : Nat) (r1 : Ord) (k2 : Nat) (r2 : Ord) (k3 : Nat) (r3 : Ord)
def ordOk (ops : Array Oper) : Ord → Nat → Array Bool → Bool
  | .nil, 0, listed => (Region.ready .any ops listed).isEmpty
  | .early k r, n + 1, listed => (Region.ready .any ops listed).contains k && Region.free .any ops listed k && ordOk ops r n (listed.setIfInBounds k true)
  | .late k r, n + 1, listed => decide (Region.ready .any ops listed = [k]) && ordOk ops r n (listed.setIfInBounds k true)
  | .fork k1 r1 k2 r2, n + 1, listed => decide (Region.ready .any ops listed = [k1, k2]) && ordOk ops r1 n (listed.setIfInBounds k1 true) && ordOk ops r2 n (listed.setIfInBounds k2 true)
  | .fork3 k1 r1 k2 r2 k3 r3, n + 1, listed => decide (Region.ready .any ops listed = [k1, k2, k3]) && ordOk ops r1 n (listed.setIfInBounds k1 true) && ordOk ops r2 n (listed.setIfInBounds k2 true) && ordOk ops r3 n (listed.setIfInBounds k3 true)
  | _, _, _ => false
section
variable {P : Program} {ops : Array Oper} {Q : Exit → Act → World → Prop} {Inv : World → Prop}
def wpOrd (P : Program) (ops : Array Oper) (Q : Exit → Act → World → Prop) (Inv : World → Prop) : Ord → Act → World → Prop
  | .nil, a, w => Q .normal a w
  | .early k r, a, w => ∃ o v, ops[k]? = some o ∧ Stab P ops Inv o v a ∧ wpOrd P ops Q Inv r (a.put o.dst v) w
  | .late k r, a, w => wpOpI P ops Q Inv k (wpOrd P ops Q Inv r) a w
  | .fork k1 r1 k2 r2, a, w => wpOpI P ops Q Inv k1 (wpOrd P ops Q Inv r1) a w ∧ wpOpI P ops Q Inv k2 (wpOrd P ops Q Inv r2) a w
  | .fork3 k1 r1 k2 r2 k3 r3, a, w => wpOpI P ops Q Inv k1 (wpOrd P ops Q Inv r1) a w ∧ wpOpI P ops Q Inv k2 (wpOrd P ops Q Inv r2) a w ∧ wpOpI P ops Q Inv k3 (wpOrd P ops Q Inv r3) a w
theorem wpOrd_any (hQ : ∀ ch a w, ¬ Q (.panic ch) a w) (hs : Region.noSelect ops = true) : ∀ (t : Ord) (n : Nat) (listed : Array Bool) (a : Act) (w : World), ordOk ops t n listed = true → Inv w → wpOrd P ops Q Inv t a w → wpAnyI P ops Q Inv n listed a w
  | .nil, 0, _, _, _, hB, _, h => ⟨by simpa [ordOk] using hB, h⟩
  | .nil, _ + 1, _, _, _, hB, _, _ => by simp [ordOk] at hB
  | .early _ _, 0, _, _, _, hB, _, _ => by simp [ordOk] at hB
  | .late _ _, 0, _, _, _, hB, _, _ => by simp [ordOk] at hB
  | .fork .., 0, _, _, _, hB, _, _ => by simp [ordOk] at hB
  | .fork3 .., 0, _, _, _, hB, _, _ => by simp [ordOk] at hB
  | .early k r, n + 1, listed, a, w, hB, hI, h => by
    simp only [ordOk, Bool.and_eq_true] at hB
    obtain ⟨⟨hr, hf⟩, hB'⟩ := hB
    obtain ⟨o, v, ho, hst, hk⟩ := h
    exact wpAnyI_first hQ ho (Region.noSelect_spec hs) n listed a w hI (Region.free_spec ho hf) (by simpa using hr) hst (wpOrd_any hQ hs r _ _ _ _ hB' hI hk)
  | .late k r, n + 1, listed, a, w, hB, hI, h => by
    simp only [ordOk, Bool.and_eq_true, decide_eq_true_eq] at hB
    refine ⟨fun h1 => (by rw [hB.1] at h1; cases h1), fun i hi => ?_⟩
    rw [hB.1] at hi
    have hik : i = k := by simpa using hi
    subst hik
    have h0 : wpOp P ops Q i (fun a' w' => Inv w' ∧ wpOrd P ops Q Inv r a' w') a w := h
    exact wpOp_mono (fun a' w' h' => ⟨h'.1, wpOrd_any hQ hs r _ _ a' w' hB.2 h'.1 h'.2⟩) h0
  | .fork k1 r1 k2 r2, n + 1, listed, a, w, hB, hI, h => by
    simp only [ordOk, Bool.and_eq_true, decide_eq_true_eq] at hB
    obtain ⟨⟨hr, hB1⟩, hB2⟩ := hB
    refine ⟨fun h1 => (by rw [hr] at h1; cases h1), fun i hi => ?_⟩
    rw [hr] at hi
    rcases List.mem_cons.1 hi with rfl | hi
    · have h0 : wpOp P ops Q i (fun a' w' => Inv w' ∧ wpOrd P ops Q Inv r1 a' w') a w := h.1
      exact wpOp_mono (fun a' w' h' => ⟨h'.1, wpOrd_any hQ hs r1 _ _ a' w' hB1 h'.1 h'.2⟩) h0
    · obtain rfl := List.mem_singleton.1 hi
      have h0 : wpOp P ops Q i (fun a' w' => Inv w' ∧ wpOrd P ops Q Inv r2 a' w') a w := h.2
      exact wpOp_mono (fun a' w' h' => ⟨h'.1, wpOrd_any hQ hs r2 _ _ a' w' hB2 h'.1 h'.2⟩) h0
  | .fork3 k1 r1 k2 r2 k3 r3, n + 1, listed, a, w, hB, hI, h => by
    simp only [ordOk, Bool.and_eq_true, decide_eq_true_eq] at hB
    obtain ⟨⟨⟨hr, hB1⟩, hB2⟩, hB3⟩ := hB
    refine ⟨fun h1 => (by rw [hr] at h1; cases h1), fun i hi => ?_⟩
    rw [hr] at hi
    rcases List.mem_cons.1 hi with rfl | hi
    · have h0 : wpOpI P ops Q Inv i (fun a' w' => wpOrd P ops Q Inv r1 a' w') a w := h.1
      exact wpOp_mono (fun a' w' h' => ⟨h'.1, wpOrd_any hQ hs r1 _ _ a' w' hB1 h'.1 h'.2⟩) h0
    · rcases List.mem_cons.1 hi with rfl | hi
      · have h0 : wpOpI P ops Q Inv i (fun a' w' => wpOrd P ops Q Inv r2 a' w') a w := h.2.1
        exact wpOp_mono (fun a' w' h' => ⟨h'.1, wpOrd_any hQ hs r2 _ _ a' w' hB2 h'.1 h'.2⟩) h0
      · obtain rfl := List.mem_singleton.1 hi
        have h0 : wpOpI P ops Q Inv i (fun a' w' => wpOrd P ops Q Inv r3 a' w') a w := h.2.2
        exact wpOp_mono (fun a' w' h' => ⟨h'.1, wpOrd_any hQ hs r3 _ _ a' w' hB3 h'.1 h'.2⟩) h0
theorem wp_region_ord {id : Nat} {a : Act} {w : World} (hm : P.follows .mixedOrders = true) (hQ : ∀ ch a w, ¬ Q (.panic ch) a w) (t : Ord) (hs : Region.noSelect ops = true)
    (hB : ordOk ops t ops.size (Array.replicate ops.size false) = true) (hI : Inv { w with drawn := w.drawn + 1 }) (h : wpOrd P ops Q Inv t a { w with drawn := w.drawn + 1 }) : (Code.region id ops true).wp P Q a w := by
  refine wp_region_any hm (wpAnyI_any (Inv := Inv) _ _ _ _ ?_)
  exact wpOrd_any hQ hs t _ _ a _ hB hI h
end

/-- As 'vcEarly', and a pointer held against nil; two strings in one. -/
def vcEarlyK (tab : Tab) (m0 : Mem) (s : St) (o : Oper) (K : SV → Prop) : Prop :=
  match o.op with
  | .nilCheck x => match ev s x with
    | .p c i d => K (.p c i d)
    | _ => False
  | .binOp op _ x y _ => match op, ev s x, ev s y with
    | .add, .v (.string a), .v (.string b) => a.size + b.size ≤ 9223372036854775807 ∧ K (.v (.string (a ++ b)))
    | _, _, _ => vcEarly tab m0 s o K
  | .slice T x lo hi mx => match mx, ev s x with
    | none, .s c i n => match tget tab T with
      | some ti => match ti.d with
        | .sl e => match tget tab e with
          | some te => match mget m0 c with
            | .ro sz _ _ => bif Nat.beq sz te.size then bnds s lo hi n fun l h => (0 ≤ l ∧ l ≤ h ∧ h ≤ (n : Int)) ∧ K (.s c (i + l.toNat) (h.toNat - l.toNat)) else False
            | _ => False
          | none => False
        | _ => False
      | none => False
    | _, _ => False
  | .call c => match c.callee with
    | .builtin .len => match c.args.toList, c.argTypes.toList with
      | [x], [T] => match ev s x with
        | .s _ _ n => match tget tab T with
          | some ti => match ti.d with
            | .sl _ => K (.v (.int .i64 n))
            | _ => False
          | none => False
        | _ => False
      | _, _ => False
    | _ => False
  | _ => vcEarly tab m0 s o K
theorem vcEarlyK_sound {P : Program} {tab : Tab} {B : Bs} {N : Nat} {ρ : List Loc} {s : St} {a : Act} {w : World} {K : SV → Prop} (ht : Tab.ok P tab) (H : Holds B N ρ s a w) {m0 : Mem} (hx : B.Rx m0) {o : Oper} (h : vcEarlyK tab m0 s o K) :
    ∃ v x, (∀ w', Frm B w' → (execOp a.eval o).run P w' = .ok (.value v) w') ∧ Rel ρ x v ∧ K x := by
  unfold vcEarlyK at h
  split at h
  · rename_i x ho
    have hv := H.ev x
    split at h
    · rename_i c i d he
      rw [he] at hv
      obtain ⟨L, hL, e⟩ := rel_p hv
      refine ⟨_, _, fun w' _ => ?_, hv, h⟩
      rw [e]
      unfold execOp
      rw [ho]
      simp [e]
    · exact h.elim
  · rename_i op T x y T2 ho
    split at h
    · rename_i p q he he2
      have h1 := H.ev x
      have h2 := H.ev y
      rw [he] at h1
      rw [he2] at h2
      obtain ⟨hle, hk⟩ := h
      refine ⟨.string (p ++ q), .v (.string (p ++ q)), fun w' _ => ?_, by simp only [Rel], hk⟩
      have hq : execOp a.eval o = (do pure (.value (← (do eqGuard .add T x y (a.eval x) (a.eval y); binOp .add T (a.eval x) (a.eval y))))) := by
        unfold execOp
        rw [ho]
      rw [hq]
      simp only [rel_v h1, rel_v h2]
      have : ¬ (((p.size + q.size : Nat) : Int) > 9223372036854775807) := by omega
      simp only [eqGuard_at_string, binOp, Op.stringOp, IntKind.max_i64, if_neg this]
      simp
    · exact vcEarly_sound ht H hx h
  · rename_i T x lo hi mx ho
    have hv := H.ev x
    split at h
    · rename_i c i n he
      rw [he] at hv
      obtain ⟨L, A, cap, hL, hv, hn, hc, hA⟩ := rel_s hv
      split at h
      · rename_i ti hT
        split at h
        · rename_i e hd0
          split at h
          · rename_i te he3
            split at h
            · rename_i sz _ _ hm
              cases hb : Nat.beq sz te.size with
              | false => rw [hb] at h; exact h.elim
              | true =>
                rw [hb] at h
                have hch := hx.ch c
                rw [hm] at hch
                obtain ⟨L', h1, h2, _⟩ := hch
                have hxr := H.mem.ext c L' h1
                rw [hL] at hxr; cases hxr
                have hs : L.sz = te.size := h2.trans (Nat.eq_of_beq_eq_true hb)
                obtain ⟨desc, hu, hd⟩ := tab_und ht hT
                rw [hd0] at hd
                simp only [TD.ok] at hd
                subst hd
                obtain ⟨l, h', hl, hh, ⟨h0, h1, h2⟩, hk⟩ := bounds_case (go := fun l h => (0 ≤ l ∧ l ≤ h ∧ h ≤ (n : Int)) ∧ K (.s c (i + l.toNat) (h.toNat - l.toNat))) H h
                refine ⟨.slice (if cap = l.toNat then A else A.map (·.add (l.toNat * te.size))) (h'.toNat - l.toNat) (cap - l.toNat), _, fun w' _ => ?_, ?_, hk⟩
                · have hb := run_bounds (P := P) (w := w') true n cap (lo.map a.eval) (hi.map a.eval) l h' (.inr hl) hh h0 h1 h2 hn
                  have hsz := tab_size ht he3 w'
                  unfold execOp
                  rw [ho]
                  simp [Instr.sliceAt, Instr.slice, run_underlying hu, hb, hsz, hv]
                · simp only [Rel]
                  refine ⟨L, _, _, hL, rfl, by omega, by omega, fun hpos => ?_⟩
                  rw [if_neg (by omega), hA (by omega)]
                  simp only [Option.map_some, Addr.add_lit, ← hs, Nat.add_mul, Nat.add_assoc]
            · exact h.elim
          · exact h.elim
        · exact h.elim
      · exact h.elim
    · exact h.elim
  · rename_i c ho
    split at h
    · rename_i hcal
      split at h
      · rename_i x T hargs htys
        have hv := H.ev x
        split at h
        · rename_i c' i n he
          rw [he] at hv
          obtain ⟨L, A, cap, hL, hv, hn, hc, hA⟩ := rel_s hv
          split at h
          · rename_i ti hT
            split at h
            · rename_i e hd0
              obtain ⟨desc, hu, hd⟩ := tab_und ht hT
              rw [hd0] at hd
              simp only [TD.ok] at hd
              subst hd
              refine ⟨.int .i64 n, _, fun w' _ => ?_, by simp only [Rel], h⟩
              obtain ⟨callee, args, tys⟩ := c
              have ea : args = #[x] := by cases args; simpa using hargs
              have et : tys = #[T] := by cases tys; simpa using htys
              have hcal : callee = .builtin .len := hcal
              subst ea et hcal
              unfold execOp
              rw [ho]
              simp [resolve, invoke, builtin, Builtin.len_, hv, run_underlying hu, goInt]
            · exact h.elim
          · exact h.elim
        · exact h.elim
      · exact h.elim
    · exact h.elim
  · exact vcEarly_sound ht H hx h

def vcLate (Γ : Cx) (all : List Oper) (k : Nat) (s : St) (K : St → Prop) : Prop :=
  match opAt all k with
  | none => False
  | some o => vcG all o s (fun s => vcOp Γ s o K) (fun s => put Γ.N s o.dst (.v (.tuple #[])) K)
/-- Both (a word of its own, so that no search for a closed first part goes into it). -/
structure Both (p q : Prop) : Prop where
  one : p
  two : q
def vcOrd (Γ : Cx) (m0 : Mem) (all : List Oper) : Ord → St → (St → Prop) → Prop
  | .nil, s, K => K s
  | .early k r, s, K => match opAt all k with
    | none => False
    | some o => vcG all o s (fun s => vcEarlyK Γ.tab m0 s o fun x => put Γ.N s o.dst x fun s => vcOrd Γ m0 all r s K) (fun s => put Γ.N s o.dst (.v (.tuple #[])) fun s => vcOrd Γ m0 all r s K)
  | .late k r, s, K => vcLate Γ all k s fun s => vcOrd Γ m0 all r s K
  | .fork k1 r1 k2 r2, s, K => Both (vcLate Γ all k1 s fun s => vcOrd Γ m0 all r1 s K) (vcLate Γ all k2 s fun s => vcOrd Γ m0 all r2 s K)
  | .fork3 k1 r1 k2 r2 k3 r3, s, K => Both (vcLate Γ all k1 s fun s => vcOrd Γ m0 all r1 s K) (Both (vcLate Γ all k2 s fun s => vcOrd Γ m0 all r2 s K) (vcLate Γ all k3 s fun s => vcOrd Γ m0 all r3 s K))

theorem vcOrd_late {Γ : Cx} (ht : Tab.ok Γ.P Γ.tab) {ops : Array Oper} {Q : Exit → Act → World → Prop} {k : Nat} {F : Act → World → Prop} {K : St → Prop} (hF : ∀ s ρ a w, K s → Holds Γ.B Γ.N ρ s a w → F a w)
    {s : St} {ρ : List Loc} {a : Act} {w : World} (h : vcLate Γ ops.toList k s K) (H : Holds Γ.B Γ.N ρ s a w) : wpOpI Γ.P ops Q (Frm Γ.B) k F a w := by
  unfold vcLate at h
  split at h
  · exact h.elim
  · rename_i o ho
    rw [opAt_eq] at ho
    have ho' : ops[k]? = some o := by simpa using ho
    unfold wpOpI Go.wpOp
    simp only [ho']
    rcases vcG_sound H h with ⟨hw, s', hk, H'⟩ | ⟨hw, s', hk, H'⟩
    · rw [if_pos hw]
      refine .inl (Oper.wp_mono (fun a' w' hh => ?_) (vcOp_sound ht H' hk))
      obtain ⟨s'', ρ', hk', H''⟩ := hh
      exact ⟨H''.mem.frm, hF s'' ρ' a' w' hk' H''⟩
    · rw [if_neg (by rw [hw]; simp)]
      obtain ⟨s'', hk', H'', _, _⟩ := put_sound H' (v := undef) (by simp only [Rel]; rfl) hk
      exact ⟨H''.mem.frm, hF s'' ρ _ w hk' H''⟩
theorem vcOrd_sound {Γ : Cx} (ht : Tab.ok Γ.P Γ.tab) {m0 : Mem} (hx : Γ.B.Rx m0) {ops : Array Oper} {K : St → Prop} {Q : Exit → Act → World → Prop} (hK : ∀ s ρ a w, K s → Holds Γ.B Γ.N ρ s a w → Q .normal a w) :
    ∀ (t : Ord) (s : St) (ρ : List Loc) (a : Act) (w : World), vcOrd Γ m0 ops.toList t s K → Holds Γ.B Γ.N ρ s a w → wpOrd Γ.P ops Q (Frm Γ.B) t a w
  | .nil, s, ρ, a, w, h, H => hK s ρ a w h H
  | .early k r, s, ρ, a, w, h, H => by
    simp only [vcOrd] at h
    split at h
    · exact h.elim
    · rename_i o ho
      rw [opAt_eq] at ho
      have ho' : ops[k]? = some o := by simpa using ho
      simp only [wpOrd]
      rcases vcG_sound H h with ⟨hw, s', hk, H'⟩ | ⟨hw, s', hk, H'⟩
      · obtain ⟨v, x, hr, hx', hp⟩ := vcEarlyK_sound ht H' hx hk
        obtain ⟨s'', hk', H'', _, _⟩ := put_sound H' hx' hp
        exact ⟨o, v, ho', .inl ⟨hw, hr⟩, vcOrd_sound ht hx hK r s'' ρ _ w hk' H''⟩
      · obtain ⟨s'', hk', H'', _, _⟩ := put_sound H' (v := undef) (by simp only [Rel]; rfl) hk
        exact ⟨o, undef, ho', .inr ⟨hw, rfl⟩, vcOrd_sound ht hx hK r s'' ρ _ w hk' H''⟩
  | .late k r, s, ρ, a, w, h, H => by
    simp only [vcOrd] at h
    simp only [wpOrd]
    exact vcOrd_late ht (fun s' ρ' a' w' hk' H' => vcOrd_sound ht hx hK r s' ρ' a' w' hk' H') h H
  | .fork k1 r1 k2 r2, s, ρ, a, w, h, H => by
    simp only [vcOrd] at h
    simp only [wpOrd]
    exact ⟨vcOrd_late ht (fun s' ρ' a' w' hk' H' => vcOrd_sound ht hx hK r1 s' ρ' a' w' hk' H') h.1 H, vcOrd_late ht (fun s' ρ' a' w' hk' H' => vcOrd_sound ht hx hK r2 s' ρ' a' w' hk' H') h.2 H⟩
  | .fork3 k1 r1 k2 r2 k3 r3, s, ρ, a, w, h, H => by
    simp only [vcOrd] at h
    simp only [wpOrd]
    exact ⟨vcOrd_late ht (fun s' ρ' a' w' hk' H' => vcOrd_sound ht hx hK r1 s' ρ' a' w' hk' H') h.1 H, vcOrd_late ht (fun s' ρ' a' w' hk' H' => vcOrd_sound ht hx hK r2 s' ρ' a' w' hk' H') h.2.1 H, vcOrd_late ht (fun s' ρ' a' w' hk' H' => vcOrd_sound ht hx hK r3 s' ρ' a' w' hk' H') h.2.2 H⟩

/-- THE RULE. -/
theorem reg_ord {Γ : Cx} {ops : Array Oper} {s : St} {K : St → Prop} (bs : List Nat) (t : Ord) (hB : (Region.noSelect ops && ordOk ops t ops.size (Array.replicate ops.size false)) = true) (hbx : allBoxK s.mem s.nx bs = true)
    (h : ∀ B' : Bs, B'.glob = Γ.B.glob → vcOrd ⟨Γ.P, Γ.tab, B', Γ.N, s.nx⟩ (roMK bs s.mem) ops.toList t ⟨s.fr, roMK bs s.mem, s.nx⟩ (fun s' => backOk bs s.mem s'.mem s.nx ∧ fmem (backMK bs s.mem s'.mem) fun M => K ⟨s'.fr, M, s'.nx⟩)) : RegG Γ ops s K := by
  refine ⟨fun ht hf Q id ρ a w hK hQ H => ?_⟩
  simp only [Bool.and_eq_true] at hB
  have H' : Holds Γ.B Γ.N ρ s a { w with drawn := w.drawn + 1 } := H.drew
  have hnx := H'.nx
  have hm := mix_enterK H'.mem bs
  have hbx' : allBoxK s.mem ρ.length bs = true := by rw [hnx]; exact hbx
  refine wp_region_ord (Inv := Frm (mixB Γ.B ρ (roMK bs s.mem) { w with drawn := w.drawn + 1 })) hf hQ t hB.1 hB.2 hm.frm ?_
  refine vcOrd_sound (Γ := ⟨Γ.P, Γ.tab, mixB Γ.B ρ (roMK bs s.mem) { w with drawn := w.drawn + 1 }, Γ.N, s.nx⟩) ht (m0 := roMK bs s.mem) ⟨hm.ch, ?_⟩ ?_ t _ ρ a _ (h _ rfl) ⟨hnx, H'.fr, H'.size, H'.dfr, hm⟩
  · intro c sz n f L hc hn hL
    have o : Occ ρ c (mget (roMK bs s.mem) c) L.blk := by rw [hc]; exact ⟨hn, L, hL, rfl⟩
    refine ⟨hm.occ_lt o, fun ⟨d, hw, o'⟩ => ?_⟩
    have hdc : d ≠ c := fun e => by subst e; rw [hc] at hw; cases hw
    exact hm.sep d c L.blk hdc hw o' o
  · intro s' ρ' a' w' hk H''
    obtain ⟨hk1, hk2⟩ := hk
    rw [fmem_eq] at hk2
    refine hK _ ρ' a' w' hk2 ⟨H''.nx, H''.fr, H''.size, H''.dfr, mix_leaveK H'.mem hbx' H''.mem (by rw [hnx]; exact hk1)⟩
end Go.Proofs.Ytdabahipeepheaa.Vc
