/- Verification conditions by symbolic execution: a function's contract, and how it is proved. -/
import Derived.Test.YtiihmggoebohkaaDoorVc16
namespace Go.Proofs.YtiihmggoebohkaaDoor.Vc
open Go Go.RowKit

/-- A FUNCTION's CONTRACT: from these arguments over these chunks (nx of them) it comes back with such a value over such chunks (the first nx are the old ones). -/
def Con (P : Program) (G : List (Nat × Value)) (g : Nat) (args : List SV) (mem : Mem) (nx : Nat) (Q : SV → Mem → Nat → Prop) : Prop :=
  Fun P g ∧ ∀ (B : Bs) (w : World) (vs : List Value), B.w0 = w → B.glob = G → B.r0.length = nx → MSat B B.r0 mem w → RelL B.r0 args vs →
    Calls P g vs.toArray w (fun e w' => ∃ v x mem' n ρ', e = .returned v ∧ Q x mem' n ∧ ρ'.length = n ∧ Rel ρ' x v ∧ MSat B ρ' mem' w')

theorem Con.mono {P : Program} {G : List (Nat × Value)} {g : Nat} {args : List SV} {mem : Mem} {nx : Nat} {Q Q' : SV → Mem → Nat → Prop} (h : Con P G g args mem nx Q) (hq : ∀ x m n, Q x m n → Q' x m n) : Con P G g args mem nx Q' :=
  ⟨h.1, fun B w vs h1 h2 h3 h4 h5 => (h.2 B w vs h1 h2 h3 h4 h5).mono fun _ _ ⟨v, x, m, n, ρ', e, q, r⟩ => ⟨v, x, m, n, ρ', e, hq _ _ _ q, r⟩⟩

def parF : Nat → List SV → Fr
  | _, [] => []
  | i, x :: r => (i, x) :: parF (i + 1) r
theorem parF_get : ∀ (l : List SV) (i t : Nat), i ≤ t → fget (parF i l) t = (l[t - i]?).getD .u
  | [], i, t, _ => by simp [parF, fget]
  | x :: r, i, t, h => by
    simp only [parF]
    rw [fget_cons]
    split
    · rename_i e; subst e; simp
    · rw [parF_get r (i + 1) t (by omega), show t - i = (t - (i + 1)) + 1 by omega, List.getElem?_cons_succ]

/-- The results, in their order. -/
def resL (tab : Tab) (s : St) : List ResultVar → (List SV → Prop) → Prop
  | [], K => K []
  | .tmp t :: r, K => resL tab s r fun l => K (fget s.fr t :: l)
  | .cell a T :: r, K => match fget s.fr a with
    | .p c i d => cont (mget s.mem c) i fun q => ldL tab T q d fun x => resL tab s r fun l => K (x :: l)
    | _ => False
/-- What a function's end owes: what it hands back, over the chunks that are kept. -/
structure RetQ (n0 : Nat) (Q : SV → Mem → Nat → Prop) (s : St) (y : SV) (new : List Kp) (x : SV) (m' : Mem) (n : Nat) : Prop where
  post : Q x m' n
  ok : newOk n0 s.nx (frees s.mem m') new = true
  nx : n = n0 + llen new
  val : sim3 (kps n0 new) s.mem x y
  mem : simM (kps n0 new) s.mem m'
def Ret (n0 : Nat) (Q : SV → Mem → Nat → Prop) (s : St) (y : SV) : Prop := ∃ new x m' n, RetQ n0 Q s y new x m' n
/-- It hands back plain values, and no memory. -/
def retM (X : SV) (M : Mem) (k : Nat) : SV → Mem → Nat → Prop := fun x m n => x = X ∧ m = M ∧ n = k
abbrev retV (n0 : Nat) (X : SV) : SV → Mem → Nat → Prop := retM X [] n0
theorem ret_mem {n0 k : Nat} {X : SV} {M : Mem} {s : St} {y : SV} (new : List Kp) (h1 : newOk n0 s.nx (frees s.mem M) new = true) (h2 : k = n0 + llen new) (h : sim3 (kps n0 new) s.mem X y) (h3 : simM (kps n0 new) s.mem M) : Ret n0 (retM X M k) s y := ⟨new, X, M, k, ⟨⟨rfl, rfl, rfl⟩, h1, h2, h, h3⟩⟩
theorem ret_plain {n0 : Nat} {X : SV} {s : St} {y : SV} (h : sim3 (kps n0 []) s.mem X y) : Ret n0 (retV n0 X) s y := ⟨[], X, [], n0, ⟨⟨rfl, rfl, rfl⟩, rfl, rfl, h, trivial⟩⟩
theorem ret_bool {n0 : Nat} {Q : Bool → Prop} {s : St} (r : Bool) (h : Q r) : Ret n0 (fun x m n => ∃ r : Bool, x = .v (.bool r) ∧ m = [] ∧ n = n0 ∧ Q r) s (.v (.bool r)) := ⟨[], .v (.bool r), [], n0, ⟨⟨r, rfl, rfl, rfl, h⟩, rfl, rfl, rfl, trivial⟩⟩
def one1 : List SV → SV
  | [x] => x
  | l => .t l
def RetP (n0 : Nat) (tab : Tab) (rs : List ResultVar) (Q : SV → Mem → Nat → Prop) (s : St) : Prop := resL tab s rs fun l => Ret n0 Q s (one1 l)

section
variable {P : Program} {tab : Tab}
def resM (P : Program) (tmps : Array Value) (w : World) (rs : List ResultVar) : Result (List Value) :=
  (rs.mapM (fun (r : ResultVar) => match r with | .tmp t => (pure (tmps.getD t undef) : Sem Value) | .cell a t => (do loadVar t (← asAddr (tmps.getD a undef))))).run P w
theorem resL_sound (ht : Tab.ok P tab) {B : Bs} {N : Nat} {ρ : List Loc} {s : St} {a : Act} {w : World} (H : Holds B N ρ s a w) : ∀ (rs : List ResultVar) (K : List SV → Prop), resL tab s rs K →
    ∃ l vs, K l ∧ RelL ρ l vs ∧ resM P a.tmps w rs = .ok vs w
  | [], K, h => ⟨[], [], h, by simp only [RelL], by simp [resM]⟩
  | .tmp t :: r, K, h => by
    obtain ⟨l, vs, h1, h2, h3⟩ := resL_sound ht H r _ h
    refine ⟨_, a.tmps.getD t undef :: vs, h1, ?_, ?_⟩
    · simp only [RelL]; exact ⟨_, _, rfl, H.fr t, h2⟩
    · unfold resM at h3 ⊢
      simp only [List.mapM_cons, Sem.run_bind, Sem.run_pure, Result.andThen_ok, h3]
  | .cell c T :: r, K, h => by
    simp only [resL] at h
    have hx := H.fr c
    split at h
    · rename_i d i o he
      rw [he] at hx
      obtain ⟨L, hL, hv⟩ := rel_p hx
      obtain ⟨l, L', vs, hk, hL', hr, h1, hc⟩ := cont_sound H.mem h
      rw [hL] at hL'; cases hL'
      obtain ⟨v, y, hrun, hy, hk'⟩ := ldL_sound ht hk hr h1 hc
      obtain ⟨l2, vs2, g1, g2, g3⟩ := resL_sound ht H r _ hk'
      refine ⟨_, v :: vs2, g1, ?_, ?_⟩
      · simp only [RelL]; exact ⟨_, _, rfl, hy, g2⟩
      · have ha : (asAddr (a.tmps.getD c undef)).run P w = .ok ⟨L.blk, L.off + i * L.sz + o, none⟩ w := by rw [hv]; simp [asAddr]
        unfold resM at g3 ⊢
        simp only [List.mapM_cons, Sem.run_bind, Sem.run_pure, ha, Result.andThen_ok, hrun, g3]
    · exact h.elim

theorem results_run {fn : Func} {tmps : Array Value} {w : World} {vs : List Value} (h : resM P tmps w fn.results.toList = .ok vs w) : (results fn tmps).run P w = .ok (if hs : vs.length = 1 then vs[0] else .tuple vs.toArray) w := by
  unfold results
  rw [Array.mapM_eq_mapM_toList]
  simp only [Sem.run_bind]
  rw [Sem.run_map]
  generalize hq : Sem.run P (List.mapM _ fn.results.toList) w = q
  have hq' : q = .ok vs w := by rw [← hq]; exact h
  subst hq'
  simp only [Result.andThen_ok, Sem.run_pure]
  rfl

theorem ret_sound (ht : Tab.ok P tab) {B : Bs} {N n0 : Nat} {ρ : List Loc} {s : St} {a : Act} {w : World} {fn : Func} {Q : SV → Mem → Nat → Prop} (hn : B.r0.length = n0) (H : Holds B N ρ s a w) (h : RetP n0 tab fn.results.toList Q s) :
    ∃ v x mem' n ρ', (results fn a.tmps).run P w = .ok v w ∧ Q x mem' n ∧ ρ'.length = n ∧ Rel ρ' x v ∧ MSat B ρ' mem' w := by
  obtain ⟨l, vs, ⟨new, x, m', n, hq⟩, hr, hm⟩ := resL_sound ht H _ _ h
  refine ⟨_, x, m', n, kLoc ρ (kps n0 new), results_run hm, hq.post, ?_, ?_, keep_msat H.mem hn (by rw [H.nx]; exact hq.ok) hq.mem⟩
  · rw [kLoc_len, kps_len, hq.nx, llen_eq]
  · refine sim3_sound H.mem.ch hq.val ?_
    have hlen := hr.length
    match l, vs, hr with
    | [], [], hr => simp only [one1, Rel]; exact ⟨_, rfl, hr⟩
    | [x], [v], hr => simp only [RelL] at hr; obtain ⟨_, _, e, h1, _⟩ := hr; cases e; exact h1
    | x :: y :: r, v :: u :: q, hr => simp only [one1, Rel]; exact ⟨_, rfl, hr⟩

/-- HOW A CONTRACT IS PROVED: the function's code is gone through. -/
theorem spec_intro {G : List (Nat × Value)} {g : Nat} {fn : Func} {c : Code} {args : List SV} {mem : Mem} {nx N : Nat} {Q : SV → Mem → Nat → Prop} (hfn : P.funcs[g]? = some fn) (hb : fn.body = some c) (hname : (fn.name == "runtime.NumGoroutine") = false) (ht : Tab.ok P tab) (hm : P.follows .mixedOrders = true)
    (hN : fn.ntmps = N) (hna : Nat.ble args.length N = true) (rs : List ResultVar) (hrs : fn.results.toList = rs)
    (h : ∀ B : Bs, B.glob = G → vcCode ⟨P, tab, B, N, nx⟩ c ⟨parF 0 args, mem, nx⟩ (RetP nx tab rs Q) (fun _ _ => False) (RetP nx tab rs Q)) : Con P G g args mem nx Q := by
  subst hrs
  refine ⟨⟨fn, hfn, hname, by rw [hb]; rfl⟩, fun B w vs hw hG hn hms hrel => ?_⟩
  subst hN
  have hlen := hrel.length
  have hle : vs.length ≤ fn.ntmps := by rw [hlen]; exact Nat.le_of_ble_eq_true hna
  have ok : Cx.Ok ⟨P, tab, B, fn.ntmps, nx⟩ := ⟨ht, hm, hn⟩
  refine calls_of_wp hfn hb (wp_mono (vcCode_sound ok c _ _ _ _ B.r0 _ w (h B hG) ⟨hn, fun t => ?_, ?_, rfl, hms⟩) ?_)
  · simp only
    rw [parF_get _ _ _ (Nat.zero_le _), Nat.sub_zero]
    simp only [Array.getD_eq_getD_getElem?]
    cases he : args[t]? with
    | none => simp only [Option.getD_none, Rel]
    | some x =>
      obtain ⟨v, hv, hx⟩ := hrel.get he
      have hlt : t < vs.length := (List.getElem?_eq_some_iff.1 hv).1
      rw [Array.getElem?_append_left (by simpa using hlt)]
      simp only [List.getElem?_toArray, hv, Option.getD_some]
      exact hx
  · simp; omega
  · intro e a' w' hq
    cases e with
    | normal =>
      obtain ⟨s', ρ', hk, H'⟩ := hq
      obtain ⟨v, x, m', n, ρ'', h1, h2⟩ := ret_sound ht hn H' hk
      exact ⟨H'.dfr, v, h1, v, x, m', n, ρ'', rfl, h2⟩
    | ret =>
      obtain ⟨s', ρ', hk, H'⟩ := hq
      obtain ⟨v, x, m', n, ρ'', h1, h2⟩ := ret_sound ht hn H' hk
      exact ⟨H'.dfr, v, h1, v, x, m', n, ρ'', rfl, h2⟩
    | exit i => obtain ⟨_, _, hf, _⟩ := hq; exact hf.elim
    | _ => exact hq.elim
end
end Go.Proofs.YtiihmggoebohkaaDoor.Vc
