/- Verification conditions by symbolic execution: regions whose order is open; variables and rows that nobody writes for a while. -/
import Derived.Test.YtdabahipeepheaaVc26
namespace Go.Proofs.Ytdabahipeepheaa.Vc
open Go Go.RowKit

/-- Variables and rows that nobody writes for a while. -/
def roMK : List Nat → Mem → Mem
  | [], m => m
  | c :: r, m => match mget m c with
    | .box _ l => (c, .ro l.length 1 fun _ => l) :: roMK r m
    | .own _ sz n f => (c, .ro sz n f) :: roMK r m
    | _ => roMK r m
def backMK : List Nat → Mem → Mem → Mem
  | [], _, m => m
  | c :: r, old, m => match mget old c with
    | .box t l => (c, .box t l) :: backMK r old m
    | .own e sz n f => (c, .own e sz n f) :: backMK r old m
    | _ => backMK r old m
def roCK (b : Bool) (x : Ch) : Ch := match x with
  | .box t l => match b with | true => .ro l.length 1 fun _ => l | false => .box t l
  | .own e sz n f => match b with | true => .ro sz n f | false => .own e sz n f
  | y => y
theorem roM_getK (m : Mem) (d : Nat) : ∀ bs : List Nat, mget (roMK bs m) d = roCK (inL d bs) (mget m d)
  | [] => by simp only [roMK, inL, roCK]; cases mget m d <;> rfl
  | c :: r => by
    have ih := roM_getK m d r
    rw [inL_cons]
    simp only [roMK]
    by_cases h : d = c
    · subst h
      rw [if_pos rfl]
      cases hm : mget m d with
      | box t l => simp only; rw [mget_cons, if_pos rfl]; rfl
      | non => simp only; rw [ih, hm]; rfl
      | ro sz n f => simp only; rw [ih, hm]; rfl
      | own e sz n f => simp only; rw [mget_cons, if_pos rfl]; rfl
    · rw [if_neg h]
      cases hm : mget m c with
      | box t l => simp only; rw [mget_cons, if_neg (fun e => h e.symm)]; exact ih
      | non => exact ih
      | ro sz n f => exact ih
      | own e sz n f => simp only; rw [mget_cons, if_neg (fun e => h e.symm)]; exact ih
theorem backM_getK (old m : Mem) (d : Nat) : ∀ bs : List Nat, mget (backMK bs old m) d = (match mget old d with | .box t l => if inL d bs then .box t l else mget m d | .own e sz n f => if inL d bs then .own e sz n f else mget m d | _ => mget m d)
  | [] => by simp only [backMK, inL]; cases mget old d <;> rfl
  | c :: r => by
    have ih := backM_getK old m d r
    rw [inL_cons]
    simp only [backMK]
    by_cases h : d = c
    · subst h
      rw [if_pos rfl]
      cases hm : mget old d with
      | box t l => simp only; rw [mget_cons, if_pos rfl]; rfl
      | non => rw [hm] at ih; simpa using ih
      | ro sz n f => rw [hm] at ih; simpa using ih
      | own e sz n f => simp only; rw [mget_cons, if_pos rfl]; rfl
    · rw [if_neg h]
      cases hm : mget old c with
      | box t l => simp only; rw [mget_cons, if_neg (fun e => h e.symm)]; exact ih
      | non => exact ih
      | ro sz n f => exact ih
      | own e sz n f => simp only; rw [mget_cons, if_neg (fun e => h e.symm)]; exact ih

def allBoxK (m : Mem) (nx : Nat) : List Nat → Bool
  | [] => true
  | c :: r => Nat.blt c nx && (match mget m c with | .box .. => true | .own .. => true | _ => false) && allBoxK m nx r
theorem allBox_memK {m : Mem} {nx : Nat} : ∀ {bs : List Nat}, allBoxK m nx bs = true → ∀ c ∈ bs, c < nx ∧ ((∃ t l, mget m c = .box t l) ∨ ∃ e sz n f, mget m c = .own e sz n f)
  | [], _, c, hc => by simp at hc
  | d :: r, h, c, hc => by
    simp only [allBoxK, Bool.and_eq_true] at h
    rcases List.mem_cons.1 hc with rfl | hc
    · refine ⟨blt_lt h.1.1, ?_⟩
      have h2 := h.1.2
      split at h2
      · rename_i t l hm; exact .inl ⟨t, l, hm⟩
      · rename_i e sz n f hm; exact .inr ⟨e, sz, n, f, hm⟩
      · cases h2
    · exact allBox_memK h.2 c hc

theorem roC_wrK {b : Bool} {x : Ch} (h : (roCK b x).wr = true) : roCK b x = x ∧ x.wr = true := by
  cases x with
  | box t l => cases b with
    | true => cases h
    | false => exact ⟨rfl, rfl⟩
  | non => cases h
  | ro => cases h
  | own => cases b with
    | true => cases h
    | false => exact ⟨rfl, rfl⟩
theorem own_at {w : World} {e : TypeId} {sz n : Nat} {v : Value} {xs : List Value} (h : w.ownsRow 0 e sz v n xs) (hn : 0 < n) : ∃ g, v.ownBlock = some g := by
  rcases h.2 with ⟨_, h0⟩ | ⟨g, cap, cur, hv, _⟩
  · omega
  · exact ⟨g, by rw [hv]; rfl⟩
theorem roC_occK {B : Bs} {w : World} {ρ : List Loc} {c d : Nat} {b : Bool} {x : Ch} (hc : ChSat B ρ w c x) (h : Occ ρ c (roCK b x) d) : Occ ρ c x d := by
  cases x with
  | box t l => cases b with
    | true => exact h.2
    | false => exact h
  | non => exact h
  | ro => exact h
  | own e sz n f => cases b with
    | true =>
      obtain ⟨L, vs, k1, _, _, k4, k5, _⟩ := hc
      obtain ⟨hn, L2, h2, h3⟩ := h
      rw [k1] at h2; cases h2
      obtain ⟨g, hg⟩ := own_at k4 hn
      exact ⟨L, k1, by rw [hg, ← (k5 g hg).1, h3]⟩
    | false => exact h

theorem mix_enterK {B : Bs} {ρ : List Loc} {m : Mem} {w : World} (h : MSat B ρ m w) (bs : List Nat) : MSat (mixB B ρ (roMK bs m) w) ρ (roMK bs m) w := by
  have own : ∀ c, (mget (roMK bs m) c).wr = true → mget (roMK bs m) c = mget m c ∧ (mget m c).wr = true := fun c hc => by
    rw [roM_getK] at hc ⊢; exact roC_wrK hc
  have occ : ∀ c b, Occ ρ c (mget (roMK bs m) c) b → Occ ρ c (mget m c) b := fun c b o => by rw [roM_getK] at o; exact roC_occK (h.ch c) o
  refine ⟨fun c => ?_, fun c d b hne hw o o' => ?_, ⟨rfl, rfl, rfl, Nat.le_refl _, fun _ _ _ => rfl⟩, Ext.refl _, fun g v hg => ⟨?_, ?_, h.frm.glb h.glb hg⟩, fun c b hc o => ?_⟩
  · have hc := h.ch c
    cases hm : mget m c with
    | non => rw [roM_getK, hm]; trivial
    | ro sz n f =>
      rw [roM_getK, hm]
      rw [hm] at hc
      exact hc
    | own t sz n f =>
      rw [hm] at hc
      obtain ⟨L, vs, k1, k2, k3, k4, k5, k6, k7⟩ := hc
      cases hb : inL c bs with
      | true =>
        rw [roM_getK, hm, hb]
        refine ⟨L, k1, k2, fun hn => ?_, fun i hi => ?_⟩
        · obtain ⟨g, hg⟩ := own_at k4 hn
          rw [(k5 g hg).1]
          exact (k4.lt g hg).2
        · obtain ⟨g, hg⟩ := own_at k4 (by omega)
          have hl : (i + 1) * sz ≤ n * sz := Nat.mul_le_mul_right sz hi
          rw [Nat.add_mul, Nat.one_mul] at hl
          have hl2 := k4.1
          refine ⟨_, k7 i hi, ?_, fun x hx => k6 x (List.mem_of_mem_drop (List.mem_of_mem_take hx)), fun j u hu => ?_⟩
          · rw [List.length_take, List.length_drop]; omega
          · have hj : j < sz := by
              have := (List.getElem?_eq_some_iff.1 hu).1
              rw [List.length_take] at this; omega
            rw [List.getElem?_take_of_lt hj, List.getElem?_drop] at hu
            have hc := k4.cells hg (i * sz + j) u hu
            rw [(k5 g hg).1, k3]
            simp only [Addr.add] at hc
            rw [show 0 + i * sz + j = 0 + (i * sz + j) from by omega]
            split at hc
            · rename_i h0; rw [h0]; exact hc
            · exact hc
      | false =>
        have e : mget (roMK bs m) c = .own t sz n f := by rw [roM_getK, hm, hb]; rfl
        rw [e]
        exact ⟨L, vs, k1, k2, k3, k4, fun b hb => ⟨(k5 b hb).1, .inr ⟨c, by rw [e]; rfl, by rw [e]; exact ⟨L, k1, hb⟩⟩⟩, k6, k7⟩
    | box t l =>
      rw [hm] at hc
      obtain ⟨L, vs, k1, k2, k3, k4, k5, k6, _⟩ := hc
      cases hb : inL c bs with
      | true =>
        rw [roM_getK, hm, hb]
        have hlt : L.blk < w.heap.size := by
          rcases Nat.lt_or_ge L.blk w.heap.size with h | h
          · exact h
          · rw [Array.getElem?_eq_none h] at k4; cases k4
        refine ⟨L, k1, k3, fun _ => hlt, fun i hi => ?_⟩
        have : i = 0 := by omega
        subst this
        refine ⟨vs, k5, k5.length, k6, fun j u hu => ?_⟩
        rw [k2]
        simp only [Nat.zero_mul, Nat.zero_add]
        simp [World.cell?, k4, hu]
      | false =>
        have e : mget (roMK bs m) c = .box t l := by rw [roM_getK, hm, hb]; rfl
        rw [e]
        exact ⟨L, vs, k1, k2, k3, k4, k5, k6, .inr ⟨c, by rw [e]; rfl, by rw [e]; exact ⟨L, k1, rfl⟩⟩⟩
  · exact h.sep c d b hne (own c hw).2 (occ c b o) (occ d b o')
  · exact Nat.lt_of_lt_of_le (h.glb g v hg).1 h.frm.size
  · rintro ⟨c, hw, o⟩
    obtain ⟨k1, k2, _⟩ := h.glb g v hg
    rcases wr_may h (own c hw).2 (occ c g o) with j | j
    · omega
    · exact k2 j
  · have hc' : ρ.length ≤ c := hc
    rcases (h.ch c).loc with hn | ⟨L, hL⟩
    · have o2 := occ c b o
      rw [hn] at o2; exact o2.elim
    · have := (List.getElem?_eq_some_iff.1 hL).1; omega

theorem mix_leaveK {B : Bs} {ρ ρ' : List Loc} {m m' : Mem} {w w' : World} (h : MSat B ρ m w) {bs : List Nat} (hbx : allBoxK m ρ.length bs = true) (h' : MSat (mixB B ρ (roMK bs m) w) ρ' m' w') (hk : backOk bs m m' ρ.length) :
    MSat B ρ' (backMK bs m m') w' := by
  have e : Ext ρ ρ' := h'.ext
  have own : ∀ c, (mget (roMK bs m) c).wr = true → (mget m c).wr = true := fun c hc => by
    rw [roM_getK] at hc; exact (roC_wrK hc).2
  have occ : ∀ c b, Occ ρ c (mget (roMK bs m) c) b → Occ ρ c (mget m c) b := fun c b o => by rw [roM_getK] at o; exact roC_occK (h.ch c) o
  have mayX : ∀ x, mixX ρ (roMK bs m) x → B.May x := fun x ⟨c, hw, o⟩ => wr_may h (own c hw) (occ c x o)
  have may : ∀ x, (mixB B ρ (roMK bs m) w).May x → B.May x := fun x hx => by
    rcases hx with hx | hx
    · exact .inl (Nat.le_trans h.frm.size hx)
    · exact mayX x hx
  -- the variables that were set apart: nobody wrote there
  have kept : ∀ c t l L, inL c bs = true → mget m c = .box t l → ρ[c]? = some L → L.blk < w.heap.size ∧ ¬ mixX ρ (roMK bs m) L.blk := by
    intro c t l L hb hm hL
    have o : Occ ρ c (mget m c) L.blk := by rw [hm]; exact ⟨L, hL, rfl⟩
    refine ⟨h.occ_lt o, fun ⟨d, hw, o'⟩ => ?_⟩
    by_cases hdc : d = c
    · subst hdc
      rw [roM_getK, hm, hb] at hw; cases hw
    · exact h.sep d c L.blk hdc (own d hw) (occ d _ o') o
  have get : ∀ c, (inL c bs = true ∧ ∃ t l, mget m c = .box t l ∧ mget (backMK bs m m') c = .box t l) ∨ (inL c bs = false ∧ mget (backMK bs m m') c = mget m' c) ∨ (inL c bs = true ∧ ∃ t sz n f, mget m c = .own t sz n f ∧ mget (backMK bs m m') c = .own t sz n f) := by
    intro c
    rw [backM_getK]
    cases hb : inL c bs with
    | true =>
      obtain ⟨_, hh⟩ := allBox_memK hbx c (inL_mem hb)
      rcases hh with ⟨t, l, hm⟩ | ⟨t, sz, n, f, hm⟩
      · rw [hm]; exact .inl ⟨rfl, t, l, rfl, rfl⟩
      · rw [hm]; exact .inr (.inr ⟨rfl, t, sz, n, f, rfl, rfl⟩)
    | false =>
      refine .inr (.inl ⟨rfl, ?_⟩)
      cases mget m c <;> rfl
  have keptO : ∀ c t sz n f L b, inL c bs = true → mget m c = .own t sz n f → ρ[c]? = some L → L.own.ownBlock = some b → b < w.heap.size ∧ ¬ mixX ρ (roMK bs m) b := by
    intro c t sz n f L b hb hm hL hob
    have o : Occ ρ c (mget m c) b := by rw [hm]; exact ⟨L, hL, hob⟩
    refine ⟨h.occ_lt o, fun ⟨d, hw, o'⟩ => ?_⟩
    by_cases hdc : d = c
    · subst hdc
      rw [roM_getK, hm, hb] at hw; cases hw
    · exact h.sep d c b hdc (own d hw) (occ d _ o') o
  -- where a chunk lies now, it lay before, or it is new
  have back : ∀ c b, Occ ρ' c (mget (backMK bs m m') c) b → (c < ρ.length ∧ Occ ρ c (mget m c) b ∧ ((mget (backMK bs m m') c).wr = true → (mget m c).wr = true)) ∨ (ρ.length ≤ c ∧ inL c bs = false ∧ mget (backMK bs m m') c = mget m' c ∧ (w.heap.size ≤ b ∨ mixX ρ (roMK bs m) b)) := by
    intro c b o
    rcases get c with ⟨hb, t, l, hm, hg⟩ | ⟨hb, hg⟩ | ⟨hb, t, sz, n, f, hm, hg⟩
    · have hlt := (allBox_memK hbx c (inL_mem hb)).1
      rw [hg] at o
      obtain ⟨L, hL⟩ : ∃ L, ρ[c]? = some L := ⟨_, List.getElem?_eq_getElem hlt⟩
      obtain ⟨L2, h2, h3⟩ := o
      rw [e c L hL] at h2; cases h2
      exact .inl ⟨hlt, by rw [hm]; exact ⟨L, hL, h3⟩, fun _ => by rw [hm]; rfl⟩
    · rw [hg] at o ⊢
      rcases Nat.lt_or_ge c ρ.length with hlt | hge
      · exact .inl ⟨hlt, kindP_occ e hlt (backOk_get hk c hlt hb) o⟩
      · exact .inr ⟨hge, hb, rfl, h'.fresh c b hge o⟩
    · have hlt := (allBox_memK hbx c (inL_mem hb)).1
      rw [hg] at o
      obtain ⟨L, hL⟩ : ∃ L, ρ[c]? = some L := ⟨_, List.getElem?_eq_getElem hlt⟩
      obtain ⟨L2, h2, h3⟩ := o
      rw [e c L hL] at h2; cases h2
      exact .inl ⟨hlt, by rw [hm]; exact ⟨L, hL, h3⟩, fun _ => by rw [hm]; rfl⟩
  refine ⟨fun c => ?_, fun c d b hne hw o o' => ?_, ?_, h.ext.trans e, h.glb, fun c b hc o => ?_⟩
  · rcases get c with ⟨hb, t, l, hm, hg⟩ | ⟨hb, hg⟩ | ⟨hb, t, sz, n, f, hm, hg⟩
    · rw [hg]
      have hc := h.ch c
      rw [hm] at hc
      obtain ⟨L, vs, k1, k2, k3, k4, k5, k6, k7⟩ := hc
      obtain ⟨q1, q2⟩ := kept c t l L hb hm k1
      exact ⟨L, vs, e c L k1, k2, k3, (h'.frm.block _ q1 q2).trans k4, RelL.mono e _ _ k5, k6, k7⟩
    · rw [hg]
      have hc := h'.ch c
      cases hm : mget m' c with
      | non => trivial
      | ro sz n f => rw [hm] at hc; exact hc
      | own t sz n f =>
        rw [hm] at hc
        obtain ⟨L, vs, k1, k2, k3, k4, k5, k6, k7⟩ := hc
        exact ⟨L, vs, k1, k2, k3, k4, fun b hb => ⟨(k5 b hb).1, may b (k5 b hb).2⟩, k6, k7⟩
      | box t l =>
        rw [hm] at hc
        obtain ⟨L, vs, k1, k2, k3, k4, k5, k6, k7⟩ := hc
        exact ⟨L, vs, k1, k2, k3, k4, k5, k6, may _ k7⟩
    · rw [hg]
      have hc := h.ch c
      rw [hm] at hc
      obtain ⟨L, vs, k1, k2, k3, k4, k5, k6, k7⟩ := hc
      refine ⟨L, vs, e c L k1, k2, k3, ⟨k4.1, ?_⟩, k5, k6, fun i hi => RelL.mono e _ _ (k7 i hi)⟩
      rcases k4.2 with q | ⟨g, cap, cur, q1, q2, q3, q4⟩
      · exact .inl q
      · have hob : L.own.ownBlock = some g := by rw [q1]; rfl
        obtain ⟨r1, r2⟩ := keptO c t sz n f L g hb hm k1 hob
        exact .inr ⟨g, cap, cur, q1, q2, (h'.frm.block g r1 r2).trans q3, q4⟩
  · -- both old; one of them new; both new
    have mixed : ∀ c d, (mget (backMK bs m m') c).wr = true ∨ (mget (backMK bs m m') d).wr = true → c ≠ d → Occ ρ' c (mget (backMK bs m m') c) b → Occ ρ' d (mget (backMK bs m m') d) b →
        (c < ρ.length ∧ Occ ρ c (mget m c) b ∧ ((mget (backMK bs m m') c).wr = true → (mget m c).wr = true)) → (ρ.length ≤ d ∧ inL d bs = false ∧ mget (backMK bs m m') d = mget m' d ∧ (w.heap.size ≤ b ∨ mixX ρ (roMK bs m) b)) → False := by
      intro c d hw hne o o' ⟨hc, oc, hwc⟩ ⟨hd, hbd, hgd, hfr⟩
      rcases hfr with hfr | hfr
      · have := h.occ_lt oc; omega
      · rcases get c with ⟨hb, t, l, hm, hg⟩ | ⟨hb, hg⟩ | ⟨hb, t, sz, n, f, hm, hg⟩
        · have oc' := oc
          rw [hm] at oc'
          obtain ⟨L, h1, h2⟩ := oc'
          obtain ⟨_, q2⟩ := kept c t l L hb hm h1
          exact q2 (by rw [h2]; exact hfr)
        · rw [hg] at hw o
          rw [hgd] at hw o'
          rcases hw with hw | hw
          · exact h'.sep c d b hne hw o o'
          · exact h'.sep d c b (Ne.symm hne) hw o' o
        · have oc' := oc
          rw [hm] at oc'
          obtain ⟨L, h1, h2⟩ := oc'
          exact (keptO c t sz n f L b hb hm h1 h2).2 hfr
    rcases back c b o with hc | hc <;> rcases back d b o' with hd | hd
    · exact h.sep c d b hne (hc.2.2 hw) hc.2.1 hd.2.1
    · exact mixed c d (.inl hw) hne o o' hc hd
    · exact mixed d c (.inr hw) (Ne.symm hne) o' o hd hc
    · rw [hc.2.2.1] at hw o
      rw [hd.2.2.1] at o'
      exact h'.sep c d b hne hw o o'
  · refine h.frm.step h'.frm.os h'.frm.tape h'.frm.output h'.frm.size (fun x hx hnx => h'.frm.block x (Nat.lt_of_lt_of_le hx h.frm.size) (fun hX => ?_))
    rcases mayX x hX with j | j
    · omega
    · exact hnx j
  · rcases back c b o with hc' | hc'
    · exact h.fresh c b hc hc'.2.1
    · exact may b hc'.2.2.2

/-- THE RULE. -/
theorem reg_mixK {Γ : Cx} {ops : Array Oper} {s : St} {K : St → Prop} (bs : List Nat) (l : List (Nat × Bool)) (hB : (Region.noSelect ops && Nat.beq l.length ops.size && mixOk ops l (Array.replicate ops.size false)) = true) (hbx : allBoxK s.mem s.nx bs = true)
    (h : ∀ B' : Bs, B'.glob = Γ.B.glob → vcMix ⟨Γ.P, Γ.tab, B', Γ.N, s.nx⟩ (roMK bs s.mem) ops.toList l ⟨s.fr, roMK bs s.mem, s.nx⟩ (fun s' => backOk bs s.mem s'.mem s.nx ∧ fmem (backMK bs s.mem s'.mem) fun M => K ⟨s'.fr, M, s'.nx⟩)) : RegG Γ ops s K := by
  refine ⟨fun ht hf Q id ρ a w hK hQ H => ?_⟩
  simp only [Bool.and_eq_true] at hB
  have H' : Holds Γ.B Γ.N ρ s a { w with drawn := w.drawn + 1 } := H.drew
  have hnx := H'.nx
  have hm := mix_enterK H'.mem bs
  have hbx' : allBoxK s.mem ρ.length bs = true := by rw [hnx]; exact hbx
  refine wp_region_mix (Inv := Frm (mixB Γ.B ρ (roMK bs s.mem) { w with drawn := w.drawn + 1 })) hf hQ l hB.1.1 (Nat.eq_of_beq_eq_true hB.1.2) hB.2 hm.frm ?_
  refine vcMix_sound (Γ := ⟨Γ.P, Γ.tab, mixB Γ.B ρ (roMK bs s.mem) { w with drawn := w.drawn + 1 }, Γ.N, s.nx⟩) ht (m0 := roMK bs s.mem) ⟨hm.ch, ?_⟩ ?_ l _ ρ a _ (h _ rfl) ⟨hnx, H'.fr, H'.size, H'.dfr, hm⟩
  · intro c sz n f L hc hn hL
    have o : Occ ρ c (mget (roMK bs s.mem) c) L.blk := by rw [hc]; exact ⟨hn, L, hL, rfl⟩
    refine ⟨hm.occ_lt o, fun ⟨d, hw, o'⟩ => ?_⟩
    have hdc : d ≠ c := fun e => by subst e; rw [hc] at hw; cases hw
    exact hm.sep d c L.blk hdc hw o' o
  · intro s' ρ' a' w' hk H''
    obtain ⟨hk1, hk2⟩ := hk
    rw [fmem_eq] at hk2
    refine hK _ ρ' a' w' hk2 ⟨H''.nx, H''.fr, H''.size, H''.dfr, mix_leaveK H'.mem hbx' H''.mem (by rw [hnx]; exact hk1)⟩
end Go.Proofs.Ytdabahipeepheaa.Vc
