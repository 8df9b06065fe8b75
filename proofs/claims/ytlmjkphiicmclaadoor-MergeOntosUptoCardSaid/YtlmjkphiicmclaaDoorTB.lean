/- Chapter 18: folded together: parts P2, T6. -/
import Derived.Test.YtlmjkphiicmclaaDoorBA
import Derived.Test.YtlmjkphiicmclaaDoorW7
namespace Go.Proofs.YtlmjkphiicmclaaDoor
open Go Go.RowKit Vc

theorem split_step {l : Byt} {i a : Nat} (h : i < l.length) (ha : a ≤ i) : splitG (l.drop i) ((l.drop a).take (i - a)) =
    if l.getD i 0 = 10 then ((l.drop a).take (i + 1 - a)) :: splitG (l.drop (i + 1)) [] else splitG (l.drop (i + 1)) ((l.drop a).take (i + 1 - a)) := by
  rw [drop_get 0 l i h]
  have e : (l.drop a).take (i + 1 - a) = (l.drop a).take (i - a) ++ [l.getD i 0] := by
    rw [show i + 1 - a = (i - a) + 1 by omega, List.take_add_one, List.getElem?_drop, show a + (i - a) = i by omega]
    simp [h]
  rw [e]
  simp only [splitG]

set_option maxRecDepth 100000 in
set_option maxHeartbeats 4000000 in
theorem rSplit_con (l : Byt) (hl : l.length ≤ 4194304) : Con Tryd.prog glob 39 [str l] [] 0 (retM (.o 0) [(0, stOwn (splitF l))] 1) := by
  have hb : (bs l).size = l.length := bs_size l
  refine spec_intro (tab := tab) (N := 37) Tryd.func39 rfl rfl tab_ok mix rfl rfl _ rfl ?_
  intro B hG
  repeat' (first | refine And.intro (by first | omega | (dsimp only; omega) | (show (_ : Bool) = true; kernel_rfl) | decide | (repeat' (first | refine And.intro ?_ ?_ | exact trivial | exact rfl))) ?_ | refine bcs_dec (fun h => ?_) (fun h => ?_) | refine bcs_ndec (fun h => ?_) (fun h => ?_) | refine bcs_not ?_ | refine bcs_intro (fun h => ?_) (fun h => ?_) | refine And.intro ?_ ?_ | refine reg_tail (by kernel_rfl) ?_)
  refine loop_rule (α := Nat × Nat × List Byt) (fun (i, a, out) => ⟨[(0, str l), (3, .o 0), (4, .v (.int .i64 a)), (5, .v (.int .i64 i))], [(0, stOwn out)], 1⟩)
    (fun (i, a, out) => a ≤ i ∧ i ≤ l.length ∧ out.length ≤ i ∧ out ++ splitG (l.drop i) ((l.drop a).take (i - a)) = splitF l) (fun (i, _) => l.length - i) (0, 0, []) [.nil 1] ?_ ?_ ?_
  · exact ⟨by omega, by omega, by simp, by simp [splitF]⟩
  · (refine ⟨rfl, rfl, ?_, ?_⟩ <;> repeat' (first | refine And.intro ?_ ?_ | exact trivial | exact rfl | refine lt0 | refine lt1 ?_ | refine lt2 ?_ ?_ | refine lt3 ?_ ?_ ?_ | refine lt4 ?_ ?_ ?_ ?_ | exact veq_refl _ | decide | (intro i hi; repeat' (first | refine And.intro ?_ ?_ | exact trivial | exact rfl))))
  rintro ⟨i, a, out⟩ ⟨h1, h2, h3, h4⟩
  have hst : i < l.length → _ := fun h => split_step (l := l) h h1
  have hbt := bt10 l i
  repeat' (first | refine And.intro (by first | omega | (dsimp only; omega) | (show (_ : Bool) = true; kernel_rfl) | decide | (repeat' (first | refine And.intro ?_ ?_ | exact trivial | exact rfl))) ?_ | refine bcs_dec (fun h => ?_) (fun h => ?_) | refine bcs_ndec (fun h => ?_) (fun h => ?_) | refine bcs_not ?_ | refine bcs_intro (fun h => ?_) (fun h => ?_) | refine And.intro ?_ ?_ | refine reg_tail (by kernel_rfl) ?_)
  · have h10 := hbt.1 h
    refine app1 stEnc [] out ((l.drop a).take (i + 1 - a)) rfl (enc_eq (bs_cut l a (i + 1))) ?_
    repeat' (first | refine And.intro (by first | omega | (dsimp only; omega) | (show (_ : Bool) = true; kernel_rfl) | decide | (repeat' (first | refine And.intro ?_ ?_ | exact trivial | exact rfl))) ?_ | refine bcs_dec (fun h => ?_) (fun h => ?_) | refine bcs_ndec (fun h => ?_) (fun h => ?_) | refine bcs_not ?_ | refine bcs_intro (fun h => ?_) (fun h => ?_) | refine And.intro ?_ ?_ | refine reg_tail (by kernel_rfl) ?_)
    refine ⟨(i + 1, i + 1, out ++ [(l.drop a).take (i + 1 - a)]), [.at 2 0], ?_, ?_, ?_⟩
    · refine ⟨by omega, by omega, by simp; omega, ?_⟩
      rw [← h4, hst (by omega), if_pos h10]
      simp
    · show l.length - (i + 1) < l.length - i
      omega
    · (refine ⟨rfl, rfl, ?_, ?_⟩ <;> repeat' (first | refine And.intro ?_ ?_ | exact trivial | exact rfl | refine lt0 | refine lt1 ?_ | refine lt2 ?_ ?_ | refine lt3 ?_ ?_ ?_ | refine lt4 ?_ ?_ ?_ ?_ | exact veq_refl _ | decide | (intro i hi; repeat' (first | refine And.intro ?_ ?_ | exact trivial | exact rfl))))
      simp
  · have h10 : ¬ l.getD i 0 = 10 := fun e => h (hbt.2 e)
    refine ⟨(i + 1, a, out), [.at 0 0], ?_, ?_, ?_⟩
    · refine ⟨by omega, by omega, by omega, ?_⟩
      rw [← h4, hst (by omega), if_neg h10]
    · show l.length - (i + 1) < l.length - i
      omega
    · (refine ⟨rfl, rfl, ?_, ?_⟩ <;> repeat' (first | refine And.intro ?_ ?_ | exact trivial | exact rfl | refine lt0 | refine lt1 ?_ | refine lt2 ?_ ?_ | refine lt3 ?_ ?_ ?_ | refine lt4 ?_ ?_ ?_ ?_ | exact veq_refl _ | decide | (intro i hi; repeat' (first | refine And.intro ?_ ?_ | exact trivial | exact rfl))))
  · have hi : i = l.length := by omega
    have hne : l.drop a ≠ [] := by intro e; have := congrArg List.length e; simp at this; omega
    subst hi
    have e : out ++ [l.drop a] = splitF l := by
      rw [← h4, List.drop_length, List.take_of_length_le (by simp), splitG_end hne]
    refine app1 stEnc [] out (l.drop a) rfl (enc_eq (cutE l a)) ?_
    repeat' (first | refine And.intro (by first | omega | (dsimp only; omega) | (show (_ : Bool) = true; kernel_rfl) | decide | (repeat' (first | refine And.intro ?_ ?_ | exact trivial | exact rfl))) ?_ | refine bcs_dec (fun h => ?_) (fun h => ?_) | refine bcs_ndec (fun h => ?_) (fun h => ?_) | refine bcs_not ?_ | refine bcs_intro (fun h => ?_) (fun h => ?_) | refine And.intro ?_ ?_ | refine reg_tail (by kernel_rfl) ?_)
    rw [e]
    refine ret_mem [.at 2 0] rfl rfl ?_ ?_
    · repeat' (first | refine And.intro ?_ ?_ | exact trivial)
      all_goals exact rfl
    · repeat' (first | refine And.intro ?_ ?_ | exact trivial)
      · rw [← e]; simp
      · intro i hi
        repeat' (first | refine And.intro ?_ ?_ | exact trivial)
        all_goals exact rfl
  · have hi : i = l.length := by omega
    have ha : a = l.length := by omega
    subst hi
    subst ha
    have e : out = splitF l := by
      rw [← h4]; simp [splitG]
    subst e
    refine ret_mem [.at 0 0] rfl rfl ?_ ?_
    · repeat' (first | refine And.intro ?_ ?_ | exact trivial)
      all_goals exact rfl
    · repeat' (first | refine And.intro ?_ ?_ | exact trivial)
      · exact rfl
      · intro i hi
        repeat' (first | refine And.intro ?_ ?_ | exact trivial)
        all_goals exact rfl
end Go.Proofs.YtlmjkphiicmclaaDoor

namespace Go.Proofs.YtlmjkphiicmclaaDoor
open Go Go.RowKit Vc

theorem splitG_app : ∀ (a c b : Byt), wholeF a = true → splitG (a ++ b) c = splitG a c ++ splitG b []
  | [], _, _, h => by rw [whole_last] at h; simp at h
  | [x], c, b, h => by
    rw [whole_last] at h
    have hx : x = 10 := by simpa using h
    subst hx
    simp [splitG]
  | x :: z :: a, c, b, h => by
    have hw : wholeF (z :: a) = true := by
      rw [whole_last] at h ⊢
      simpa using h
    rw [List.cons_append, splitG, splitG]
    split
    · rw [splitG_app (z :: a) [] b hw, List.cons_append]
    · exact splitG_app (z :: a) (c ++ [x]) b hw
theorem splitF_app {a b : Byt} (h : a = [] ∨ wholeF a = true) : splitF (a ++ b) = splitF a ++ splitF b := by
  rcases h with rfl | h
  · rfl
  · exact splitG_app a [] b h
/-- The lines of a chunk's text. -/
def tlF (b m y lab : List Byt) (fmt : Int) (c : Chk) (last : Bool) : List Byt := splitF (toldF b m y lab fmt c last)
def tlsF (b m y lab : List Byt) (fmt : Int) : List Chk → List Byt
  | [] => []
  | c :: r => tlF b m y lab fmt c r.isEmpty ++ tlsF b m y lab fmt r
theorem tls_split {b m y lab : List Byt} {fmt : Int} : ∀ l : List Chk, splitF (toldsF b m y lab fmt l) = tlsF b m y lab fmt l
  | [] => rfl
  | c :: r => by
    show splitF (toldF b m y lab fmt c r.isEmpty ++ toldsF b m y lab fmt r) = tlF b m y lab fmt c r.isEmpty ++ tlsF b m y lab fmt r
    rw [← tls_split r]
    cases hr : r with
    | nil =>
      show splitF (_ ++ []) = _ ++ splitF []
      rw [List.append_nil]
      show _ = _ ++ []
      rw [List.append_nil]; rfl
    | cons d q =>
      exact splitF_app (addE_whole _)
def onC (b m y lab : List Byt) (fmt : Int) (c : Chk) (last : Bool) (z : Int) : List Chg := if tlF b m y lab fmt c last = segL m c.m (c.m + c.mn) then [] else [⟨c.m, c.mn, z, (tlF b m y lab fmt c last).length⟩]
def onF (b m y lab : List Byt) (fmt : Int) : List Chk → Int → List Chg
  | [], _ => []
  | c :: r, z => onC b m y lab fmt c r.isEmpty z ++ onF b m y lab fmt r (z + (tlF b m y lab fmt c r.isEmpty).length)
/-- It is a script from mine to the text's lines. -/
theorem on_valid {b m y lab : List Byt} {fmt : Int} (M : Int) : ∀ (l : List Chk) (z u v w a0 b0 : Int), covF b m y l z u v → 0 ≤ u → 0 ≤ w → a0 ≤ u → b0 ≤ w → u - a0 = w - b0 → M = w + (tlsF b m y lab fmt l).length → validF (onF b m y lab fmt l w) a0 b0 m.length M = 0
  | [], z, u, v, w, a0, b0, ⟨_, h, _⟩, _, _, _, _, hd, hM => by
    subst h
    simp only [tlsF, List.length_nil] at hM
    show (if (m.length : Int) - a0 ≠ M - b0 then (60 : Int) else 0) = 0
    rw [if_neg (by omega)]
  | c :: r, z, u, v, w, a0, b0, ⟨e1, e2, e3, p1, p2, p3, p4, p5, p6, p7, p8, p9, p10, hr⟩, hu, hw, ha, hb, hd, hM => by
    have hM2 : M = w + (tlF b m y lab fmt c r.isEmpty).length + (tlsF b m y lab fmt r).length := by
      rw [hM]
      show w + ((tlF b m y lab fmt c r.isEmpty ++ tlsF b m y lab fmt r).length : Int) = _
      rw [List.length_append]
      omega
    have sl := seg_len m (show 0 ≤ c.m by omega) (show c.m ≤ c.m + c.mn by omega) (by omega)
    show validF (onC b m y lab fmt c r.isEmpty w ++ onF b m y lab fmt r (w + (tlF b m y lab fmt c r.isEmpty).length)) a0 b0 m.length M = 0
    unfold onC
    split
    · rename_i h
      have hl := congrArg List.length h
      rw [sl] at hl
      rw [List.nil_append]
      exact on_valid M r _ _ _ _ a0 b0 hr (by omega) (by omega) (by omega) (by omega) (by omega) hM2
    · rename_i h
      have hn : ¬ (c.mn = 0 ∧ (tlF b m y lab fmt c r.isEmpty).length = 0) := fun ⟨k1, k2⟩ => h (by
        rw [List.length_eq_zero_iff.1 k2]
        exact (List.length_eq_zero_iff.1 (by rw [sl]; omega)).symm)
      have nb : ¬ bad ⟨c.m, c.mn, w, (tlF b m y lab fmt c r.isEmpty).length⟩ a0 b0 m.length M := by
        unfold bad
        dsimp only
        omega
      rw [List.singleton_append]
      show (if bad _ a0 b0 m.length M then (60 : Int) else validF _ (c.m + c.mn) (w + (tlF b m y lab fmt c r.isEmpty).length) m.length M) = 0
      rw [if_neg nb]
      exact on_valid M r _ _ _ _ _ _ hr (by omega) (by omega) (by omega) (by omega) (by omega) hM2
theorem on_len {b m y lab : List Byt} {fmt : Int} : ∀ (l : List Chk) (z : Int), (onF b m y lab fmt l z).length ≤ l.length
  | [], _ => Nat.le_refl _
  | c :: r, z => by
    have := on_len (b := b) (m := m) (y := y) (lab := lab) (fmt := fmt) r (z + (tlF b m y lab fmt c r.isEmpty).length)
    show (onC b m y lab fmt c r.isEmpty z ++ onF b m y lab fmt r _).length ≤ _
    rw [List.length_append, List.length_cons]
    unfold onC
    split
    · simp only [List.length_nil]; omega
    · simp only [List.length_singleton]; omega
/-- Onto: the error, the script, the lines. -/
def onL (s t : List Chg) (b m y lab : List Byt) (fmt : Int) : List Chg := if mgErr s t b m y lab fmt = 0 then normF (onF b m y lab fmt (chLst s t b m y) 0) else []
def onT (s t : List Chg) (b m y lab : List Byt) (fmt : Int) : List Byt := if mgErr s t b m y lab fmt = 0 then splitF (mgTxt s t b m y lab fmt) else []
theorem mg_ch {s t : List Chg} {b m y lab : List Byt} {fmt : Int} (h : mgErr s t b m y lab fmt = 0) : chErr s t b m y = 0 := by
  rcases mgErr_cases s t b m y lab fmt with ⟨_, k⟩ | ⟨_, _, ⟨k, e⟩ | ⟨_, ⟨k, e⟩ | ⟨k, _⟩⟩⟩
  · omega
  · rw [h] at e; exact absurd e.symm k
  · rw [h] at e; exact absurd e.symm k
  · exact k
theorem mg_len {s t : List Chg} {b m y lab : List Byt} {fmt : Int} (h : mgErr s t b m y lab fmt = 0) : (mgTxt s t b m y lab fmt).length ≤ 4194304 := by
  rw [(mgTxt_ok h).1]
  rcases mgErr_cases s t b m y lab fmt with ⟨_, e⟩ | ⟨_, _, ⟨k, e⟩ | ⟨_, ⟨k, e⟩ | ⟨_, ⟨_, e⟩ | ⟨hl, _⟩⟩⟩⟩
  · omega
  · rw [h] at e; exact absurd e.symm k
  · rw [h] at e; exact absurd e.symm k
  · omega
  · exact hl
theorem on_ok {s t : List Chg} {b m y lab : List Byt} {fmt : Int} (hm : m.length ≤ 4194304) (h : mgErr s t b m y lab fmt = 0) : validE (onF b m y lab fmt (chLst s t b m y) 0) m.length (splitF (mgTxt s t b m y lab fmt)).length = 0 := by
  have hc := chLst_cov (mg_ch h)
  have hl := mg_len h
  have hs := splitF_len (mgTxt s t b m y lab fmt)
  unfold validE
  rw [if_neg (by omega)]
  refine on_valid _ _ 0 0 0 0 0 0 hc.2.2.2 (by decide) (by decide) (by decide) (by decide) (by decide) ?_
  rw [(mgTxt_ok h).1, tls_split]
  omega
end Go.Proofs.YtlmjkphiicmclaaDoor
