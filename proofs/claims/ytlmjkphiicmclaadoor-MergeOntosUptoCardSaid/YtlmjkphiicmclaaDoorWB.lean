/- Chapter 18: folded together: parts W5, W5a, W5b, W5c, W5d, W5e. -/
import Derived.Test.YtlmjkphiicmclaaDoorW4
namespace Go.Proofs.YtlmjkphiicmclaaDoor
open Go Go.RowKit Vc

theorem flat_step {L : List Byt} {k : Nat} {out : Byt} (hk : k < L.length) (h : out ++ (L.drop k).flatten = L.flatten) : out ++ L.getD k [] ++ (L.drop (k + 1)).flatten = L.flatten := by
  rw [← h, drop_get [] L k hk]; simp
set_option maxRecDepth 100000 in
set_option maxHeartbeats 4000000 in
theorem rJoin_con (L : List Byt) (g : Nat → Byt) (hn : L.length ≤ 140737488355328) (hl : L.flatten.length ≤ 140737488355328) (hg : ∀ k, k < L.length → g k = L.getD k []) : Con Tryd.prog glob 19 [.s 0 0 L.length] [(0, .ro 1 L.length fun i => stEnc (g i))] 1 (retV 1 (str L.flatten)) := by
  refine spec_intro (tab := tab) (N := 19) Tryd.func19 rfl rfl tab_ok mix rfl rfl _ rfl ?_
  intro B hG
  repeat' (first | refine And.intro (by first | omega | (dsimp only; omega) | (show (_ : Bool) = true; kernel_rfl) | decide | (repeat' (first | refine And.intro ?_ ?_ | exact trivial | exact rfl))) ?_ | refine bcs_dec (fun h => ?_) (fun h => ?_) | refine bcs_ndec (fun h => ?_) (fun h => ?_) | refine bcs_not ?_ | refine bcs_intro (fun h => ?_) (fun h => ?_) | refine And.intro ?_ ?_ | refine reg_tail (by kernel_rfl) ?_)
  refine loop_rule (α := Nat × Byt) (fun (k, out) => ⟨[(0, .s 0 0 L.length), (3, .o 1), (4, .v (.int .i64 k))], [(0, .ro 1 L.length fun i => stEnc (g i)), (1, byOwn out)], 2⟩)
    (fun (k, out) => k ≤ L.length ∧ out ++ (L.drop k).flatten = L.flatten) (fun (k, _) => L.length - k) (0, []) [.nil 1] ?_ ?_ ?_
  · exact ⟨by omega, rfl⟩
  · (refine ⟨rfl, rfl, ?_, ?_⟩ <;> repeat' (first | refine And.intro ?_ ?_ | exact trivial | exact rfl | refine lt0 | refine lt1 ?_ | refine lt2 ?_ ?_ | refine lt3 ?_ ?_ ?_ | refine lt4 ?_ ?_ ?_ ?_ | exact veq_refl _ | decide | (intro i hi; repeat' (first | refine And.intro ?_ ?_ | exact trivial | exact rfl))))
    all_goals exact Nat.le_refl _
  rintro ⟨k, out⟩ ⟨h1, h2⟩
  have ek : k < L.length → (g (0 + (k : Int).toNat)) = L.getD k [] := fun h => by rw [Nat.zero_add, Int.toNat_natCast, hg k h]
  have hb : (bs (g (0 + (k : Int).toNat))).size = ((g (0 + (k : Int).toNat))).length := bs_size _
  have hs : k < L.length → out ++ L.getD k [] ++ (L.drop (k + 1)).flatten = L.flatten := fun h => flat_step h h2
  have hlen : k < L.length → out.length + ((g (0 + (k : Int).toNat))).length ≤ 140737488355328 := fun h => by
    rw [ek h]
    have := congrArg List.length (hs h)
    simp only [List.length_append] at this
    omega
  repeat' (first | refine And.intro (by first | omega | (dsimp only; omega) | (show (_ : Bool) = true; kernel_rfl) | decide | (repeat' (first | refine And.intro ?_ ?_ | exact trivial | exact rfl))) ?_ | refine bcs_dec (fun h => ?_) (fun h => ?_) | refine bcs_ndec (fun h => ?_) (fun h => ?_) | refine bcs_not ?_ | refine bcs_intro (fun h => ?_) (fun h => ?_) | refine And.intro ?_ ?_ | refine reg_tail (by kernel_rfl) ?_)
  · refine ext_apps Tryd.underlying71 Tryd.underlying9 (te := Tryd.t5) (by kernel_rfl) rfl rfl rfl rfl ?_
    repeat' (first | refine And.intro (by first | omega | (dsimp only; omega) | (show (_ : Bool) = true; kernel_rfl) | decide | (repeat' (first | refine And.intro ?_ ?_ | exact trivial | exact rfl))) ?_ | refine bcs_dec (fun h => ?_) (fun h => ?_) | refine bcs_ndec (fun h => ?_) (fun h => ?_) | refine bcs_not ?_ | refine bcs_intro (fun h => ?_) (fun h => ?_) | refine And.intro ?_ ?_)
    refine appB rfl ?_
    repeat' (first | refine And.intro (by first | omega | (dsimp only; omega) | (show (_ : Bool) = true; kernel_rfl) | decide | (repeat' (first | refine And.intro ?_ ?_ | exact trivial | exact rfl))) ?_ | refine bcs_dec (fun h => ?_) (fun h => ?_) | refine bcs_ndec (fun h => ?_) (fun h => ?_) | refine bcs_not ?_ | refine bcs_intro (fun h => ?_) (fun h => ?_) | refine And.intro ?_ ?_ | refine reg_tail (by kernel_rfl) ?_)
    refine ⟨(k + 1, out ++ (g (0 + (k : Int).toNat))), [.at 2 0], ?_, ?_, ?_⟩
    · refine ⟨by omega, ?_⟩
      rw [ek (by omega)]
      exact hs (by omega)
    · show L.length - (k + 1) < L.length - k
      omega
    · (refine ⟨rfl, rfl, ?_, ?_⟩ <;> repeat' (first | refine And.intro ?_ ?_ | exact trivial | exact rfl | refine lt0 | refine lt1 ?_ | refine lt2 ?_ ?_ | refine lt3 ?_ ?_ ?_ | refine lt4 ?_ ?_ ?_ ?_ | exact veq_refl _ | decide | (intro i hi; repeat' (first | refine And.intro ?_ ?_ | exact trivial | exact rfl))))
      all_goals first | exact Nat.le_refl _ | (rw [List.length_append, bs_size])
  · have e : out = L.flatten := by
      rw [← h2, List.drop_of_length_le (by omega)]; simp
    subst e
    refine ext_b2s Tryd.underlying71 Tryd.underlying5 Tryd.underlying9 ?_
    refine ⟨_, rfl, fun j hj => by rw [Nat.zero_add], ?_⟩
    repeat' (first | refine And.intro (by first | omega | (dsimp only; omega) | (show (_ : Bool) = true; kernel_rfl) | decide | (repeat' (first | refine And.intro ?_ ?_ | exact trivial | exact rfl))) ?_ | refine bcs_dec (fun h => ?_) (fun h => ?_) | refine bcs_ndec (fun h => ?_) (fun h => ?_) | refine bcs_not ?_ | refine bcs_intro (fun h => ?_) (fun h => ?_) | refine And.intro ?_ ?_ | refine reg_tail (by kernel_rfl) ?_)
    refine ret_plain ?_
    exact rfl
set_option maxRecDepth 100000 in
set_option maxHeartbeats 4000000 in
theorem ended_con (L : List Byt) (g : Nat → Byt) (hn : L.length ≤ 140737488355328) (hl : L.flatten.length ≤ 140737488355328) (hg : ∀ k, k < L.length → g k = L.getD k []) : Con Tryd.prog glob 60 [.s 0 0 L.length] [(0, .ro 1 L.length fun i => stEnc (g i))] 1 (retV 1 (str (addE false L.flatten))) := by
  have cJ := rJoin_con L g hn hl hg
  obtain ⟨u, hu⟩ : ∃ u, u = L.flatten := ⟨_, rfl⟩
  rw [← hu] at cJ hl ⊢
  clear hu
  have cW := rWhole_con u (by omega)
  have hb : (bs u).size = u.length := bs_size u
  have h10 : (ByteArray.mk #[10]).size = 1 := rfl
  refine spec_intro (tab := tab) (N := 16) Tryd.func60 rfl rfl tab_ok mix rfl rfl _ rfl ?_
  intro B hG
  repeat' (first | refine Both.mk ?_ ?_ | refine And.intro (by first | (show (_ : Bool) = true; kernel_rfl) | omega | (dsimp only; omega) | decide | (repeat' (first | refine And.intro ?_ ?_ | exact trivial | exact rfl))) ?_ | refine bcs_dec (fun h => ?_) (fun h => False.elim (by first | omega | exact h rfl)) | refine bcs_dec (fun h => False.elim (by omega)) (fun h => ?_) | refine bcs_dec (fun h => ?_) (fun h => ?_) | refine bcs_ndec (fun h => ?_) (fun h => ?_) | refine bcs_not ?_ | refine And.intro ?_ ?_)
  refine call_rule [.at 0 0] (cJ) hG ?_ ?_
  · (refine ⟨?_, ?_, rfl, rfl, rfl⟩ <;> repeat' (first | refine And.intro ?_ ?_ | exact trivial | exact rfl | refine lt0 | refine lt1 ?_ | refine lt2 ?_ ?_ | refine lt3 ?_ ?_ ?_ | refine lt4 ?_ ?_ ?_ ?_ | exact veq_refl _ | decide | (intro i hi; repeat' (first | refine And.intro ?_ ?_ | exact trivial | exact rfl))))
    all_goals first | exact Nat.le_refl _ | omega
  rintro _ _ _ ⟨rfl, rfl, rfl⟩
  repeat' (first | refine Both.mk ?_ ?_ | refine And.intro (by first | (show (_ : Bool) = true; kernel_rfl) | omega | (dsimp only; omega) | decide | (repeat' (first | refine And.intro ?_ ?_ | exact trivial | exact rfl))) ?_ | refine bcs_dec (fun h => ?_) (fun h => False.elim (by first | omega | exact h rfl)) | refine bcs_dec (fun h => False.elim (by omega)) (fun h => ?_) | refine bcs_dec (fun h => ?_) (fun h => ?_) | refine bcs_ndec (fun h => ?_) (fun h => ?_) | refine bcs_not ?_ | refine And.intro ?_ ?_)
  by_cases he : u = []
  · subst he
    refine bcs_t (by rw [eqE]; rfl) ?_
    repeat' (first | refine Both.mk ?_ ?_ | refine And.intro (by first | (show (_ : Bool) = true; kernel_rfl) | omega | (dsimp only; omega) | decide | (repeat' (first | refine And.intro ?_ ?_ | exact trivial | exact rfl))) ?_ | refine bcs_dec (fun h => ?_) (fun h => False.elim (by first | omega | exact h rfl)) | refine bcs_dec (fun h => False.elim (by omega)) (fun h => ?_) | refine bcs_dec (fun h => ?_) (fun h => ?_) | refine bcs_ndec (fun h => ?_) (fun h => ?_) | refine bcs_not ?_ | refine And.intro ?_ ?_)
    refine ret_plain ?_
    exact rfl
  · refine bcs_f (by rw [eqE]; simp [he]) ?_
    repeat' (first | refine Both.mk ?_ ?_ | refine And.intro (by first | (show (_ : Bool) = true; kernel_rfl) | omega | (dsimp only; omega) | decide | (repeat' (first | refine And.intro ?_ ?_ | exact trivial | exact rfl))) ?_ | refine bcs_dec (fun h => ?_) (fun h => False.elim (by first | omega | exact h rfl)) | refine bcs_dec (fun h => False.elim (by omega)) (fun h => ?_) | refine bcs_dec (fun h => ?_) (fun h => ?_) | refine bcs_ndec (fun h => ?_) (fun h => ?_) | refine bcs_not ?_ | refine And.intro ?_ ?_)
    cases hw : wholeF u with
    | true =>
      rw [hw] at cW
      refine call_rule [] (cW) hG ?_ ?_
      · (refine ⟨?_, ?_, rfl, rfl, rfl⟩ <;> repeat' (first | refine And.intro ?_ ?_ | exact trivial | exact rfl | refine lt0 | refine lt1 ?_ | refine lt2 ?_ ?_ | refine lt3 ?_ ?_ ?_ | refine lt4 ?_ ?_ ?_ ?_ | exact veq_refl _ | decide | (intro i hi; repeat' (first | refine And.intro ?_ ?_ | exact trivial | exact rfl))))
        all_goals first | exact Nat.le_refl _ | omega
      rintro _ _ _ ⟨rfl, rfl, rfl⟩
      repeat' (first | refine Both.mk ?_ ?_ | refine And.intro (by first | (show (_ : Bool) = true; kernel_rfl) | omega | (dsimp only; omega) | decide | (repeat' (first | refine And.intro ?_ ?_ | exact trivial | exact rfl))) ?_ | refine bcs_dec (fun h => ?_) (fun h => False.elim (by first | omega | exact h rfl)) | refine bcs_dec (fun h => False.elim (by omega)) (fun h => ?_) | refine bcs_dec (fun h => ?_) (fun h => ?_) | refine bcs_ndec (fun h => ?_) (fun h => ?_) | refine bcs_not ?_ | refine And.intro ?_ ?_)
      refine ret_plain ?_
      rw [show addE false u = u by unfold addE; simp [hw]]
      exact rfl
    | false =>
      rw [hw] at cW
      refine call_rule [] (cW) hG ?_ ?_
      · (refine ⟨?_, ?_, rfl, rfl, rfl⟩ <;> repeat' (first | refine And.intro ?_ ?_ | exact trivial | exact rfl | refine lt0 | refine lt1 ?_ | refine lt2 ?_ ?_ | refine lt3 ?_ ?_ ?_ | refine lt4 ?_ ?_ ?_ ?_ | exact veq_refl _ | decide | (intro i hi; repeat' (first | refine And.intro ?_ ?_ | exact trivial | exact rfl))))
        all_goals first | exact Nat.le_refl _ | omega
      rintro _ _ _ ⟨rfl, rfl, rfl⟩
      repeat' (first | refine Both.mk ?_ ?_ | refine And.intro (by first | (show (_ : Bool) = true; kernel_rfl) | omega | (dsimp only; omega) | decide | (repeat' (first | refine And.intro ?_ ?_ | exact trivial | exact rfl))) ?_ | refine bcs_dec (fun h => ?_) (fun h => False.elim (by first | omega | exact h rfl)) | refine bcs_dec (fun h => False.elim (by omega)) (fun h => ?_) | refine bcs_dec (fun h => ?_) (fun h => ?_) | refine bcs_ndec (fun h => ?_) (fun h => ?_) | refine bcs_not ?_ | refine And.intro ?_ ?_)
      refine ret_plain ?_
      rw [show addE false u = u ++ [10] by unfold addE; simp [hw, he]]
      exact veq_of_eq (congrArg Value.string (bs_app u [10]).symm)
theorem seg_flat (L : List Byt) (i j : Int) : (segL L i j).flatten.length ≤ L.flatten.length := by
  have e : L = L.take i.toNat ++ (segL L i j ++ (L.drop i.toNat).drop (j.toNat - i.toNat)) := by
    unfold segL
    rw [List.take_append_drop, List.take_append_drop]
  have h := congrArg (fun x => x.flatten.length) e
  simp only [List.flatten_append, List.length_append] at h
  omega
theorem addE_len (t : Byt) (last : Bool) : (addE last t).length ≤ t.length + 1 := by
  unfold addE
  split
  · rw [List.length_append]; simp
  · omega
/-- What is known where the document tells a chunk. -/
structure ToldOk (b m y lab : List Byt) (fmt : Int) (c : Chk) : Prop where
  hb : b.flatten.length ≤ 4194304
  hm : m.flatten.length ≤ 4194304
  hy : y.flatten.length ≤ 4194304
  hlab : ∀ i, (lab.getD i []).length ≤ 4096
  hbl : b.length ≤ 4194304
  hml : m.length ≤ 4194304
  hyl : y.length ≤ 4194304
  hl3 : lab.length = 3
  hf1 : 1 ≤ fmt
  hf2 : fmt ≤ 5
  hb1 : 0 ≤ c.b
  hb2 : 0 ≤ c.bn
  hb3 : c.b + c.bn ≤ b.length
  hm1 : 0 ≤ c.m
  hm2 : 0 ≤ c.mn
  hm3 : c.m + c.mn ≤ m.length
  hy1 : 0 ≤ c.y
  hy2 : 0 ≤ c.yn
  hy3 : c.y + c.yn ≤ y.length
theorem told_A1 {b m y lab : List Byt} {fmt : Int} {c : Chk} (h : c.k = 3) : toldT b m y lab fmt c = (segL y c.y (c.y + c.yn)).flatten := by
  unfold toldT
  rw [if_pos (Or.inl h)]
theorem told_A2 {b m y lab : List Byt} {fmt : Int} {c : Chk} (h : c.k = 5 ∧ fmt = 5) : toldT b m y lab fmt c = (segL y c.y (c.y + c.yn)).flatten := by
  unfold toldT
  rw [if_pos (Or.inr h)]
theorem told_B {b m y lab : List Byt} {fmt : Int} {c : Chk} (h : c.k = 5 ∧ fmt = 3) : toldT b m y lab fmt c = addE false (segL m c.m (c.m + c.mn)).flatten ++ (segL y c.y (c.y + c.yn)).flatten := by
  unfold toldT
  rw [if_neg (by omega), if_pos h]
theorem told_C1 {b m y lab : List Byt} {fmt : Int} {c : Chk} (h : c.k = 5 ∧ fmt = 1) : toldT b m y lab fmt c = markP 60 (lab.getD 0 []) ++ (addE false (segL m c.m (c.m + c.mn)).flatten ++ (eqsP ++ (addE false (segL y c.y (c.y + c.yn)).flatten ++ markP 62 (lab.getD 2 [])))) := by
  unfold toldT
  rw [if_neg (by omega), if_neg (by omega), if_pos (by omega), if_neg (by omega), List.nil_append]
theorem told_C2 {b m y lab : List Byt} {fmt : Int} {c : Chk} (h : c.k = 5 ∧ fmt = 2) : toldT b m y lab fmt c = markP 60 (lab.getD 0 []) ++ (addE false (segL m c.m (c.m + c.mn)).flatten ++ ((markP 124 (lab.getD 1 []) ++ addE false (segL b c.b (c.b + c.bn)).flatten) ++ (eqsP ++ (addE false (segL y c.y (c.y + c.yn)).flatten ++ markP 62 (lab.getD 2 []))))) := by
  unfold toldT
  rw [if_neg (by omega), if_neg (by omega), if_pos (by omega), if_pos (by omega)]
theorem told_D1 {b m y lab : List Byt} {fmt : Int} {c : Chk} (h : c.k = 5 ∧ fmt = 4) : toldT b m y lab fmt c = (segL m c.m (c.m + c.mn)).flatten := by
  unfold toldT
  rw [if_neg (by omega), if_neg (by omega), if_neg (by omega)]
theorem told_D2 {b m y lab : List Byt} {fmt : Int} {c : Chk} (h : c.k ≠ 3 ∧ c.k ≠ 5) : toldT b m y lab fmt c = (segL m c.m (c.m + c.mn)).flatten := by
  unfold toldT
  rw [if_neg (by omega), if_neg (by omega), if_neg (by omega)]
end Go.Proofs.YtlmjkphiicmclaaDoor

namespace Go.Proofs.YtlmjkphiicmclaaDoor
open Go Go.RowKit Vc

set_option maxRecDepth 100000 in
set_option maxHeartbeats 64000000 in
theorem toldA1_con (b m y lab : List Byt) (fmt : Int) (c : Chk) (last : Bool) (H : ToldOk b m y lab fmt c) (hc : c.k = 3) :
    Con Tryd.prog glob 35 [ckV c, .s 0 0 b.length, .s 1 0 m.length, .s 2 0 y.length, .s 3 0 lab.length, .v (.int .i64 fmt), .v (.bool last)] [(0, stRo b), (1, stRo m), (2, stRo y), (3, stRo lab)] 4 (retV 4 (str (toldF b m y lab fmt c last))) := by
  obtain ⟨hb, hm, hy, hlab, hbl, hml, hyl, hl3, hf1, hf2, hb1, hb2, hb3, hm1, hm2, hm3, hy1, hy2, hy3⟩ := H
  have s1 := seg_len m (show 0 ≤ c.m by omega) (show c.m ≤ c.m + c.mn by omega) (by omega)
  have s2 := seg_len y (show 0 ≤ c.y by omega) (show c.y ≤ c.y + c.yn by omega) (by omega)
  have s3 := seg_len b (show 0 ≤ c.b by omega) (show c.b ≤ c.b + c.bn by omega) (by omega)
  have t1 := seg_flat m c.m (c.m + c.mn)
  have t2 := seg_flat y c.y (c.y + c.yn)
  have t3 := seg_flat b c.b (c.b + c.bn)
  have u1 := addE_len (segL m c.m (c.m + c.mn)).flatten false
  have u2 := addE_len (segL y c.y (c.y + c.yn)).flatten false
  have u3 := addE_len (segL b c.b (c.b + c.bn)).flatten false
  obtain ⟨T, hT⟩ : ∃ T, T = toldF b m y lab fmt c last := ⟨_, rfl⟩
  rw [← hT]
  unfold toldF at hT
  have y0 : (bs (lab.getD (0 + Int.toNat 0) [])).size ≤ 4096 := by rw [bs_size]; exact hlab _
  have y1 : (bs (lab.getD (0 + Int.toNat 1) [])).size ≤ 4096 := by rw [bs_size]; exact hlab _
  have y2 : (bs (lab.getD (0 + Int.toNat 2) [])).size ≤ 4096 := by rw [bs_size]; exact hlab _
  have z1 := bs_size (addE false (segL m c.m (c.m + c.mn)).flatten)
  have z2 := bs_size (addE false (segL y c.y (c.y + c.yn)).flatten)
  have z3 := bs_size (addE false (segL b c.b (c.b + c.bn)).flatten)
  have z4 := bs_size (segL y c.y (c.y + c.yn)).flatten
  rw [told_A1 hc] at hT
  have h10 : (ByteArray.mk #[10]).size = 1 := rfl
  have h60 : (ByteArray.mk #[60, 60, 60, 60, 60, 60, 60, 32]).size = 8 := rfl
  have h124 : (ByteArray.mk #[124, 124, 124, 124, 124, 124, 124, 32]).size = 8 := rfl
  have h62 : (ByteArray.mk #[62, 62, 62, 62, 62, 62, 62, 32]).size = 8 := rfl
  have h61 : (ByteArray.mk #[61, 61, 61, 61, 61, 61, 61, 10]).size = 8 := rfl
  refine spec_intro (tab := tab) (N := 127) Tryd.func35 rfl rfl tab_ok mix rfl rfl _ rfl ?_
  intro B hG
  repeat' (first | refine Both.mk ?_ ?_ | refine And.intro (by first | (show (_ : Bool) = true; kernel_rfl) | omega | (dsimp only; omega) | (simp only [ByteArray.size_append]; omega) | decide | (repeat' (first | refine And.intro ?_ ?_ | exact trivial | exact rfl))) ?_ | refine bcs_dec (fun h => ?_) (fun h => False.elim (by first | omega | exact h rfl)) | refine bcs_dec (fun h => False.elim (by omega)) (fun h => ?_) | refine bcs_dec (fun h => ?_) (fun h => ?_) | refine bcs_ndec (fun h => ?_) (fun h => ?_) | refine bcs_not ?_ | refine And.intro ?_ ?_)
  refine call_rule [.at 1 (c.m).toNat] ((rJoin_con (segL m c.m (c.m + c.mn)) (fun k => m.getD (k + (c.m).toNat) []) (by omega) (by omega) (seg_row m (by omega) (by omega) (by omega)))) hG ?_ ?_
  · (refine ⟨?_, ?_, rfl, rfl, rfl⟩ <;> repeat' (first | refine And.intro ?_ ?_ | exact trivial | exact rfl | refine lt0 | refine lt1 ?_ | refine lt2 ?_ ?_ | refine lt3 ?_ ?_ ?_ | refine lt4 ?_ ?_ ?_ ?_ | exact veq_refl _ | decide | (intro i hi; repeat' (first | refine And.intro ?_ ?_ | exact trivial | exact rfl))))
    all_goals first | exact Nat.le_refl _ | omega
  rintro _ _ _ ⟨rfl, rfl, rfl⟩
  repeat' (first | refine Both.mk ?_ ?_ | refine And.intro (by first | (show (_ : Bool) = true; kernel_rfl) | omega | (dsimp only; omega) | (simp only [ByteArray.size_append]; omega) | decide | (repeat' (first | refine And.intro ?_ ?_ | exact trivial | exact rfl))) ?_ | refine bcs_dec (fun h => ?_) (fun h => False.elim (by first | omega | exact h rfl)) | refine bcs_dec (fun h => False.elim (by omega)) (fun h => ?_) | refine bcs_dec (fun h => ?_) (fun h => ?_) | refine bcs_ndec (fun h => ?_) (fun h => ?_) | refine bcs_not ?_ | refine And.intro ?_ ?_)
  refine call_rule [.at 2 (c.y).toNat] ((rJoin_con (segL y c.y (c.y + c.yn)) (fun k => y.getD (k + (c.y).toNat) []) (by omega) (by omega) (seg_row y (by omega) (by omega) (by omega)))) hG ?_ ?_
  · (refine ⟨?_, ?_, rfl, rfl, rfl⟩ <;> repeat' (first | refine And.intro ?_ ?_ | exact trivial | exact rfl | refine lt0 | refine lt1 ?_ | refine lt2 ?_ ?_ | refine lt3 ?_ ?_ ?_ | refine lt4 ?_ ?_ ?_ ?_ | exact veq_refl _ | decide | (intro i hi; repeat' (first | refine And.intro ?_ ?_ | exact trivial | exact rfl))))
    all_goals first | exact Nat.le_refl _ | omega
  rintro _ _ _ ⟨rfl, rfl, rfl⟩
  repeat' (first | refine Both.mk ?_ ?_ | refine And.intro (by first | (show (_ : Bool) = true; kernel_rfl) | omega | (dsimp only; omega) | (simp only [ByteArray.size_append]; omega) | decide | (repeat' (first | refine And.intro ?_ ?_ | exact trivial | exact rfl))) ?_ | refine bcs_dec (fun h => ?_) (fun h => False.elim (by first | omega | exact h rfl)) | refine bcs_dec (fun h => False.elim (by omega)) (fun h => ?_) | refine bcs_dec (fun h => ?_) (fun h => ?_) | refine bcs_ndec (fun h => ?_) (fun h => ?_) | refine bcs_not ?_ | refine And.intro ?_ ?_)
  have fy := seg_flat y c.y (c.y + c.yn)
  generalize hu : (segL y c.y (c.y + c.yn)).flatten = u at hT fy
  have hsz : (bs u).size = u.length := bs_size u
  cases last with
  | true =>
    repeat' (first | refine Both.mk ?_ ?_ | refine And.intro (by first | (show (_ : Bool) = true; kernel_rfl) | omega | (dsimp only; omega) | (simp only [ByteArray.size_append]; omega) | decide | (repeat' (first | refine And.intro ?_ ?_ | exact trivial | exact rfl))) ?_ | refine bcs_dec (fun h => ?_) (fun h => False.elim (by first | omega | exact h rfl)) | refine bcs_dec (fun h => False.elim (by omega)) (fun h => ?_) | refine bcs_dec (fun h => ?_) (fun h => ?_) | refine bcs_ndec (fun h => ?_) (fun h => ?_) | refine bcs_not ?_ | refine And.intro ?_ ?_)
    refine ret_plain ?_
    rw [hT]
    exact rfl
  | false =>
    repeat' (first | refine Both.mk ?_ ?_ | refine And.intro (by first | (show (_ : Bool) = true; kernel_rfl) | omega | (dsimp only; omega) | (simp only [ByteArray.size_append]; omega) | decide | (repeat' (first | refine And.intro ?_ ?_ | exact trivial | exact rfl))) ?_ | refine bcs_dec (fun h => ?_) (fun h => False.elim (by first | omega | exact h rfl)) | refine bcs_dec (fun h => False.elim (by omega)) (fun h => ?_) | refine bcs_dec (fun h => ?_) (fun h => ?_) | refine bcs_ndec (fun h => ?_) (fun h => ?_) | refine bcs_not ?_ | refine And.intro ?_ ?_)
    by_cases he : u = []
    · subst he
      refine bcs_t (by rw [eqE]; rfl) ?_
      repeat' (first | refine Both.mk ?_ ?_ | refine And.intro (by first | (show (_ : Bool) = true; kernel_rfl) | omega | (dsimp only; omega) | (simp only [ByteArray.size_append]; omega) | decide | (repeat' (first | refine And.intro ?_ ?_ | exact trivial | exact rfl))) ?_ | refine bcs_dec (fun h => ?_) (fun h => False.elim (by first | omega | exact h rfl)) | refine bcs_dec (fun h => False.elim (by omega)) (fun h => ?_) | refine bcs_dec (fun h => ?_) (fun h => ?_) | refine bcs_ndec (fun h => ?_) (fun h => ?_) | refine bcs_not ?_ | refine And.intro ?_ ?_)
      refine ret_plain ?_
      rw [hT]
      exact rfl
    · refine bcs_f (by rw [eqE]; simp [he]) ?_
      repeat' (first | refine Both.mk ?_ ?_ | refine And.intro (by first | (show (_ : Bool) = true; kernel_rfl) | omega | (dsimp only; omega) | (simp only [ByteArray.size_append]; omega) | decide | (repeat' (first | refine And.intro ?_ ?_ | exact trivial | exact rfl))) ?_ | refine bcs_dec (fun h => ?_) (fun h => False.elim (by first | omega | exact h rfl)) | refine bcs_dec (fun h => False.elim (by omega)) (fun h => ?_) | refine bcs_dec (fun h => ?_) (fun h => ?_) | refine bcs_ndec (fun h => ?_) (fun h => ?_) | refine bcs_not ?_ | refine And.intro ?_ ?_)
      have cW := rWhole_con u (by omega)
      cases hw : wholeF u with
      | true =>
        rw [hw] at cW
        refine call_rule [] (cW) hG ?_ ?_
        · (refine ⟨?_, ?_, rfl, rfl, rfl⟩ <;> repeat' (first | refine And.intro ?_ ?_ | exact trivial | exact rfl | refine lt0 | refine lt1 ?_ | refine lt2 ?_ ?_ | refine lt3 ?_ ?_ ?_ | refine lt4 ?_ ?_ ?_ ?_ | exact veq_refl _ | decide | (intro i hi; repeat' (first | refine And.intro ?_ ?_ | exact trivial | exact rfl))))
          all_goals first | exact Nat.le_refl _ | omega
        rintro _ _ _ ⟨rfl, rfl, rfl⟩
        repeat' (first | refine Both.mk ?_ ?_ | refine And.intro (by first | (show (_ : Bool) = true; kernel_rfl) | omega | (dsimp only; omega) | (simp only [ByteArray.size_append]; omega) | decide | (repeat' (first | refine And.intro ?_ ?_ | exact trivial | exact rfl))) ?_ | refine bcs_dec (fun h => ?_) (fun h => False.elim (by first | omega | exact h rfl)) | refine bcs_dec (fun h => False.elim (by omega)) (fun h => ?_) | refine bcs_dec (fun h => ?_) (fun h => ?_) | refine bcs_ndec (fun h => ?_) (fun h => ?_) | refine bcs_not ?_ | refine And.intro ?_ ?_)
        refine ret_plain ?_
        rw [hT, show addE false u = u by unfold addE; simp [hw]]
        exact rfl
      | false =>
        rw [hw] at cW
        refine call_rule [] (cW) hG ?_ ?_
        · (refine ⟨?_, ?_, rfl, rfl, rfl⟩ <;> repeat' (first | refine And.intro ?_ ?_ | exact trivial | exact rfl | refine lt0 | refine lt1 ?_ | refine lt2 ?_ ?_ | refine lt3 ?_ ?_ ?_ | refine lt4 ?_ ?_ ?_ ?_ | exact veq_refl _ | decide | (intro i hi; repeat' (first | refine And.intro ?_ ?_ | exact trivial | exact rfl))))
          all_goals first | exact Nat.le_refl _ | omega
        rintro _ _ _ ⟨rfl, rfl, rfl⟩
        repeat' (first | refine Both.mk ?_ ?_ | refine And.intro (by first | (show (_ : Bool) = true; kernel_rfl) | omega | (dsimp only; omega) | (simp only [ByteArray.size_append]; omega) | decide | (repeat' (first | refine And.intro ?_ ?_ | exact trivial | exact rfl))) ?_ | refine bcs_dec (fun h => ?_) (fun h => False.elim (by first | omega | exact h rfl)) | refine bcs_dec (fun h => False.elim (by omega)) (fun h => ?_) | refine bcs_dec (fun h => ?_) (fun h => ?_) | refine bcs_ndec (fun h => ?_) (fun h => ?_) | refine bcs_not ?_ | refine And.intro ?_ ?_)
        refine ret_plain ?_
        rw [hT, show addE false u = u ++ [10] by unfold addE; simp [hw, he]]
        exact veq_of_eq (congrArg Value.string (bs_app u [10]).symm)
set_option maxRecDepth 100000 in
set_option maxHeartbeats 64000000 in
theorem toldD2_con (b m y lab : List Byt) (fmt : Int) (c : Chk) (last : Bool) (H : ToldOk b m y lab fmt c) (hc : c.k ≠ 3 ∧ c.k ≠ 5) :
    Con Tryd.prog glob 35 [ckV c, .s 0 0 b.length, .s 1 0 m.length, .s 2 0 y.length, .s 3 0 lab.length, .v (.int .i64 fmt), .v (.bool last)] [(0, stRo b), (1, stRo m), (2, stRo y), (3, stRo lab)] 4 (retV 4 (str (toldF b m y lab fmt c last))) := by
  obtain ⟨hb, hm, hy, hlab, hbl, hml, hyl, hl3, hf1, hf2, hb1, hb2, hb3, hm1, hm2, hm3, hy1, hy2, hy3⟩ := H
  have s1 := seg_len m (show 0 ≤ c.m by omega) (show c.m ≤ c.m + c.mn by omega) (by omega)
  have s2 := seg_len y (show 0 ≤ c.y by omega) (show c.y ≤ c.y + c.yn by omega) (by omega)
  have s3 := seg_len b (show 0 ≤ c.b by omega) (show c.b ≤ c.b + c.bn by omega) (by omega)
  have t1 := seg_flat m c.m (c.m + c.mn)
  have t2 := seg_flat y c.y (c.y + c.yn)
  have t3 := seg_flat b c.b (c.b + c.bn)
  have u1 := addE_len (segL m c.m (c.m + c.mn)).flatten false
  have u2 := addE_len (segL y c.y (c.y + c.yn)).flatten false
  have u3 := addE_len (segL b c.b (c.b + c.bn)).flatten false
  obtain ⟨T, hT⟩ : ∃ T, T = toldF b m y lab fmt c last := ⟨_, rfl⟩
  rw [← hT]
  unfold toldF at hT
  have y0 : (bs (lab.getD (0 + Int.toNat 0) [])).size ≤ 4096 := by rw [bs_size]; exact hlab _
  have y1 : (bs (lab.getD (0 + Int.toNat 1) [])).size ≤ 4096 := by rw [bs_size]; exact hlab _
  have y2 : (bs (lab.getD (0 + Int.toNat 2) [])).size ≤ 4096 := by rw [bs_size]; exact hlab _
  have z1 := bs_size (addE false (segL m c.m (c.m + c.mn)).flatten)
  have z2 := bs_size (addE false (segL y c.y (c.y + c.yn)).flatten)
  have z3 := bs_size (addE false (segL b c.b (c.b + c.bn)).flatten)
  have z4 := bs_size (segL y c.y (c.y + c.yn)).flatten
  rw [told_D2 hc] at hT
  have h10 : (ByteArray.mk #[10]).size = 1 := rfl
  have h60 : (ByteArray.mk #[60, 60, 60, 60, 60, 60, 60, 32]).size = 8 := rfl
  have h124 : (ByteArray.mk #[124, 124, 124, 124, 124, 124, 124, 32]).size = 8 := rfl
  have h62 : (ByteArray.mk #[62, 62, 62, 62, 62, 62, 62, 32]).size = 8 := rfl
  have h61 : (ByteArray.mk #[61, 61, 61, 61, 61, 61, 61, 10]).size = 8 := rfl
  refine spec_intro (tab := tab) (N := 127) Tryd.func35 rfl rfl tab_ok mix rfl rfl _ rfl ?_
  intro B hG
  repeat' (first | refine Both.mk ?_ ?_ | refine And.intro (by first | (show (_ : Bool) = true; kernel_rfl) | omega | (dsimp only; omega) | (simp only [ByteArray.size_append]; omega) | decide | (repeat' (first | refine And.intro ?_ ?_ | exact trivial | exact rfl))) ?_ | refine bcs_dec (fun h => ?_) (fun h => False.elim (by first | omega | exact h rfl)) | refine bcs_dec (fun h => False.elim (by omega)) (fun h => ?_) | refine bcs_dec (fun h => ?_) (fun h => ?_) | refine bcs_ndec (fun h => ?_) (fun h => ?_) | refine bcs_not ?_ | refine And.intro ?_ ?_)
  refine call_rule [.at 1 (c.m).toNat] ((rJoin_con (segL m c.m (c.m + c.mn)) (fun k => m.getD (k + (c.m).toNat) []) (by omega) (by omega) (seg_row m (by omega) (by omega) (by omega)))) hG ?_ ?_
  · (refine ⟨?_, ?_, rfl, rfl, rfl⟩ <;> repeat' (first | refine And.intro ?_ ?_ | exact trivial | exact rfl | refine lt0 | refine lt1 ?_ | refine lt2 ?_ ?_ | refine lt3 ?_ ?_ ?_ | refine lt4 ?_ ?_ ?_ ?_ | exact veq_refl _ | decide | (intro i hi; repeat' (first | refine And.intro ?_ ?_ | exact trivial | exact rfl))))
    all_goals first | exact Nat.le_refl _ | omega
  rintro _ _ _ ⟨rfl, rfl, rfl⟩
  repeat' (first | refine Both.mk ?_ ?_ | refine And.intro (by first | (show (_ : Bool) = true; kernel_rfl) | omega | (dsimp only; omega) | (simp only [ByteArray.size_append]; omega) | decide | (repeat' (first | refine And.intro ?_ ?_ | exact trivial | exact rfl))) ?_ | refine bcs_dec (fun h => ?_) (fun h => False.elim (by first | omega | exact h rfl)) | refine bcs_dec (fun h => False.elim (by omega)) (fun h => ?_) | refine bcs_dec (fun h => ?_) (fun h => ?_) | refine bcs_ndec (fun h => ?_) (fun h => ?_) | refine bcs_not ?_ | refine And.intro ?_ ?_)
  have fm := seg_flat m c.m (c.m + c.mn)
  generalize hu : (segL m c.m (c.m + c.mn)).flatten = u at hT fm
  have hsz : (bs u).size = u.length := bs_size u
  cases last with
  | true =>
    repeat' (first | refine Both.mk ?_ ?_ | refine And.intro (by first | (show (_ : Bool) = true; kernel_rfl) | omega | (dsimp only; omega) | (simp only [ByteArray.size_append]; omega) | decide | (repeat' (first | refine And.intro ?_ ?_ | exact trivial | exact rfl))) ?_ | refine bcs_dec (fun h => ?_) (fun h => False.elim (by first | omega | exact h rfl)) | refine bcs_dec (fun h => False.elim (by omega)) (fun h => ?_) | refine bcs_dec (fun h => ?_) (fun h => ?_) | refine bcs_ndec (fun h => ?_) (fun h => ?_) | refine bcs_not ?_ | refine And.intro ?_ ?_)
    refine ret_plain ?_
    rw [hT]
    exact rfl
  | false =>
    repeat' (first | refine Both.mk ?_ ?_ | refine And.intro (by first | (show (_ : Bool) = true; kernel_rfl) | omega | (dsimp only; omega) | (simp only [ByteArray.size_append]; omega) | decide | (repeat' (first | refine And.intro ?_ ?_ | exact trivial | exact rfl))) ?_ | refine bcs_dec (fun h => ?_) (fun h => False.elim (by first | omega | exact h rfl)) | refine bcs_dec (fun h => False.elim (by omega)) (fun h => ?_) | refine bcs_dec (fun h => ?_) (fun h => ?_) | refine bcs_ndec (fun h => ?_) (fun h => ?_) | refine bcs_not ?_ | refine And.intro ?_ ?_)
    by_cases he : u = []
    · subst he
      refine bcs_t (by rw [eqE]; rfl) ?_
      repeat' (first | refine Both.mk ?_ ?_ | refine And.intro (by first | (show (_ : Bool) = true; kernel_rfl) | omega | (dsimp only; omega) | (simp only [ByteArray.size_append]; omega) | decide | (repeat' (first | refine And.intro ?_ ?_ | exact trivial | exact rfl))) ?_ | refine bcs_dec (fun h => ?_) (fun h => False.elim (by first | omega | exact h rfl)) | refine bcs_dec (fun h => False.elim (by omega)) (fun h => ?_) | refine bcs_dec (fun h => ?_) (fun h => ?_) | refine bcs_ndec (fun h => ?_) (fun h => ?_) | refine bcs_not ?_ | refine And.intro ?_ ?_)
      refine ret_plain ?_
      rw [hT]
      exact rfl
    · refine bcs_f (by rw [eqE]; simp [he]) ?_
      repeat' (first | refine Both.mk ?_ ?_ | refine And.intro (by first | (show (_ : Bool) = true; kernel_rfl) | omega | (dsimp only; omega) | (simp only [ByteArray.size_append]; omega) | decide | (repeat' (first | refine And.intro ?_ ?_ | exact trivial | exact rfl))) ?_ | refine bcs_dec (fun h => ?_) (fun h => False.elim (by first | omega | exact h rfl)) | refine bcs_dec (fun h => False.elim (by omega)) (fun h => ?_) | refine bcs_dec (fun h => ?_) (fun h => ?_) | refine bcs_ndec (fun h => ?_) (fun h => ?_) | refine bcs_not ?_ | refine And.intro ?_ ?_)
      have cW := rWhole_con u (by omega)
      cases hw : wholeF u with
      | true =>
        rw [hw] at cW
        refine call_rule [] (cW) hG ?_ ?_
        · (refine ⟨?_, ?_, rfl, rfl, rfl⟩ <;> repeat' (first | refine And.intro ?_ ?_ | exact trivial | exact rfl | refine lt0 | refine lt1 ?_ | refine lt2 ?_ ?_ | refine lt3 ?_ ?_ ?_ | refine lt4 ?_ ?_ ?_ ?_ | exact veq_refl _ | decide | (intro i hi; repeat' (first | refine And.intro ?_ ?_ | exact trivial | exact rfl))))
          all_goals first | exact Nat.le_refl _ | omega
        rintro _ _ _ ⟨rfl, rfl, rfl⟩
        repeat' (first | refine Both.mk ?_ ?_ | refine And.intro (by first | (show (_ : Bool) = true; kernel_rfl) | omega | (dsimp only; omega) | (simp only [ByteArray.size_append]; omega) | decide | (repeat' (first | refine And.intro ?_ ?_ | exact trivial | exact rfl))) ?_ | refine bcs_dec (fun h => ?_) (fun h => False.elim (by first | omega | exact h rfl)) | refine bcs_dec (fun h => False.elim (by omega)) (fun h => ?_) | refine bcs_dec (fun h => ?_) (fun h => ?_) | refine bcs_ndec (fun h => ?_) (fun h => ?_) | refine bcs_not ?_ | refine And.intro ?_ ?_)
        refine ret_plain ?_
        rw [hT, show addE false u = u by unfold addE; simp [hw]]
        exact rfl
      | false =>
        rw [hw] at cW
        refine call_rule [] (cW) hG ?_ ?_
        · (refine ⟨?_, ?_, rfl, rfl, rfl⟩ <;> repeat' (first | refine And.intro ?_ ?_ | exact trivial | exact rfl | refine lt0 | refine lt1 ?_ | refine lt2 ?_ ?_ | refine lt3 ?_ ?_ ?_ | refine lt4 ?_ ?_ ?_ ?_ | exact veq_refl _ | decide | (intro i hi; repeat' (first | refine And.intro ?_ ?_ | exact trivial | exact rfl))))
          all_goals first | exact Nat.le_refl _ | omega
        rintro _ _ _ ⟨rfl, rfl, rfl⟩
        repeat' (first | refine Both.mk ?_ ?_ | refine And.intro (by first | (show (_ : Bool) = true; kernel_rfl) | omega | (dsimp only; omega) | (simp only [ByteArray.size_append]; omega) | decide | (repeat' (first | refine And.intro ?_ ?_ | exact trivial | exact rfl))) ?_ | refine bcs_dec (fun h => ?_) (fun h => False.elim (by first | omega | exact h rfl)) | refine bcs_dec (fun h => False.elim (by omega)) (fun h => ?_) | refine bcs_dec (fun h => ?_) (fun h => ?_) | refine bcs_ndec (fun h => ?_) (fun h => ?_) | refine bcs_not ?_ | refine And.intro ?_ ?_)
        refine ret_plain ?_
        rw [hT, show addE false u = u ++ [10] by unfold addE; simp [hw, he]]
        exact veq_of_eq (congrArg Value.string (bs_app u [10]).symm)
end Go.Proofs.YtlmjkphiicmclaaDoor

namespace Go.Proofs.YtlmjkphiicmclaaDoor
open Go Go.RowKit Vc

set_option maxRecDepth 100000 in
set_option maxHeartbeats 64000000 in
theorem toldA2_con (b m y lab : List Byt) (fmt : Int) (c : Chk) (last : Bool) (H : ToldOk b m y lab fmt c) (hc : c.k = 5 ∧ fmt = 5) :
    Con Tryd.prog glob 35 [ckV c, .s 0 0 b.length, .s 1 0 m.length, .s 2 0 y.length, .s 3 0 lab.length, .v (.int .i64 fmt), .v (.bool last)] [(0, stRo b), (1, stRo m), (2, stRo y), (3, stRo lab)] 4 (retV 4 (str (toldF b m y lab fmt c last))) := by
  obtain ⟨hb, hm, hy, hlab, hbl, hml, hyl, hl3, hf1, hf2, hb1, hb2, hb3, hm1, hm2, hm3, hy1, hy2, hy3⟩ := H
  have s1 := seg_len m (show 0 ≤ c.m by omega) (show c.m ≤ c.m + c.mn by omega) (by omega)
  have s2 := seg_len y (show 0 ≤ c.y by omega) (show c.y ≤ c.y + c.yn by omega) (by omega)
  have s3 := seg_len b (show 0 ≤ c.b by omega) (show c.b ≤ c.b + c.bn by omega) (by omega)
  have t1 := seg_flat m c.m (c.m + c.mn)
  have t2 := seg_flat y c.y (c.y + c.yn)
  have t3 := seg_flat b c.b (c.b + c.bn)
  have u1 := addE_len (segL m c.m (c.m + c.mn)).flatten false
  have u2 := addE_len (segL y c.y (c.y + c.yn)).flatten false
  have u3 := addE_len (segL b c.b (c.b + c.bn)).flatten false
  obtain ⟨T, hT⟩ : ∃ T, T = toldF b m y lab fmt c last := ⟨_, rfl⟩
  rw [← hT]
  unfold toldF at hT
  have y0 : (bs (lab.getD (0 + Int.toNat 0) [])).size ≤ 4096 := by rw [bs_size]; exact hlab _
  have y1 : (bs (lab.getD (0 + Int.toNat 1) [])).size ≤ 4096 := by rw [bs_size]; exact hlab _
  have y2 : (bs (lab.getD (0 + Int.toNat 2) [])).size ≤ 4096 := by rw [bs_size]; exact hlab _
  have z1 := bs_size (addE false (segL m c.m (c.m + c.mn)).flatten)
  have z2 := bs_size (addE false (segL y c.y (c.y + c.yn)).flatten)
  have z3 := bs_size (addE false (segL b c.b (c.b + c.bn)).flatten)
  have z4 := bs_size (segL y c.y (c.y + c.yn)).flatten
  rw [told_A2 hc] at hT
  have h10 : (ByteArray.mk #[10]).size = 1 := rfl
  have h60 : (ByteArray.mk #[60, 60, 60, 60, 60, 60, 60, 32]).size = 8 := rfl
  have h124 : (ByteArray.mk #[124, 124, 124, 124, 124, 124, 124, 32]).size = 8 := rfl
  have h62 : (ByteArray.mk #[62, 62, 62, 62, 62, 62, 62, 32]).size = 8 := rfl
  have h61 : (ByteArray.mk #[61, 61, 61, 61, 61, 61, 61, 10]).size = 8 := rfl
  refine spec_intro (tab := tab) (N := 127) Tryd.func35 rfl rfl tab_ok mix rfl rfl _ rfl ?_
  intro B hG
  repeat' (first | refine Both.mk ?_ ?_ | refine And.intro (by first | (show (_ : Bool) = true; kernel_rfl) | omega | (dsimp only; omega) | (simp only [ByteArray.size_append]; omega) | decide | (repeat' (first | refine And.intro ?_ ?_ | exact trivial | exact rfl))) ?_ | refine bcs_dec (fun h => ?_) (fun h => False.elim (by first | omega | exact h rfl)) | refine bcs_dec (fun h => False.elim (by omega)) (fun h => ?_) | refine bcs_dec (fun h => ?_) (fun h => ?_) | refine bcs_ndec (fun h => ?_) (fun h => ?_) | refine bcs_not ?_ | refine And.intro ?_ ?_)
  refine call_rule [.at 1 (c.m).toNat] ((rJoin_con (segL m c.m (c.m + c.mn)) (fun k => m.getD (k + (c.m).toNat) []) (by omega) (by omega) (seg_row m (by omega) (by omega) (by omega)))) hG ?_ ?_
  · (refine ⟨?_, ?_, rfl, rfl, rfl⟩ <;> repeat' (first | refine And.intro ?_ ?_ | exact trivial | exact rfl | refine lt0 | refine lt1 ?_ | refine lt2 ?_ ?_ | refine lt3 ?_ ?_ ?_ | refine lt4 ?_ ?_ ?_ ?_ | exact veq_refl _ | decide | (intro i hi; repeat' (first | refine And.intro ?_ ?_ | exact trivial | exact rfl))))
    all_goals first | exact Nat.le_refl _ | omega
  rintro _ _ _ ⟨rfl, rfl, rfl⟩
  repeat' (first | refine Both.mk ?_ ?_ | refine And.intro (by first | (show (_ : Bool) = true; kernel_rfl) | omega | (dsimp only; omega) | (simp only [ByteArray.size_append]; omega) | decide | (repeat' (first | refine And.intro ?_ ?_ | exact trivial | exact rfl))) ?_ | refine bcs_dec (fun h => ?_) (fun h => False.elim (by first | omega | exact h rfl)) | refine bcs_dec (fun h => False.elim (by omega)) (fun h => ?_) | refine bcs_dec (fun h => ?_) (fun h => ?_) | refine bcs_ndec (fun h => ?_) (fun h => ?_) | refine bcs_not ?_ | refine And.intro ?_ ?_)
  refine call_rule [.at 2 (c.y).toNat] ((rJoin_con (segL y c.y (c.y + c.yn)) (fun k => y.getD (k + (c.y).toNat) []) (by omega) (by omega) (seg_row y (by omega) (by omega) (by omega)))) hG ?_ ?_
  · (refine ⟨?_, ?_, rfl, rfl, rfl⟩ <;> repeat' (first | refine And.intro ?_ ?_ | exact trivial | exact rfl | refine lt0 | refine lt1 ?_ | refine lt2 ?_ ?_ | refine lt3 ?_ ?_ ?_ | refine lt4 ?_ ?_ ?_ ?_ | exact veq_refl _ | decide | (intro i hi; repeat' (first | refine And.intro ?_ ?_ | exact trivial | exact rfl))))
    all_goals first | exact Nat.le_refl _ | omega
  rintro _ _ _ ⟨rfl, rfl, rfl⟩
  repeat' (first | refine Both.mk ?_ ?_ | refine And.intro (by first | (show (_ : Bool) = true; kernel_rfl) | omega | (dsimp only; omega) | (simp only [ByteArray.size_append]; omega) | decide | (repeat' (first | refine And.intro ?_ ?_ | exact trivial | exact rfl))) ?_ | refine bcs_dec (fun h => ?_) (fun h => False.elim (by first | omega | exact h rfl)) | refine bcs_dec (fun h => False.elim (by omega)) (fun h => ?_) | refine bcs_dec (fun h => ?_) (fun h => ?_) | refine bcs_ndec (fun h => ?_) (fun h => ?_) | refine bcs_not ?_ | refine And.intro ?_ ?_)
  have fy := seg_flat y c.y (c.y + c.yn)
  generalize hu : (segL y c.y (c.y + c.yn)).flatten = u at hT fy
  have hsz : (bs u).size = u.length := bs_size u
  cases last with
  | true =>
    repeat' (first | refine Both.mk ?_ ?_ | refine And.intro (by first | (show (_ : Bool) = true; kernel_rfl) | omega | (dsimp only; omega) | (simp only [ByteArray.size_append]; omega) | decide | (repeat' (first | refine And.intro ?_ ?_ | exact trivial | exact rfl))) ?_ | refine bcs_dec (fun h => ?_) (fun h => False.elim (by first | omega | exact h rfl)) | refine bcs_dec (fun h => False.elim (by omega)) (fun h => ?_) | refine bcs_dec (fun h => ?_) (fun h => ?_) | refine bcs_ndec (fun h => ?_) (fun h => ?_) | refine bcs_not ?_ | refine And.intro ?_ ?_)
    refine ret_plain ?_
    rw [hT]
    exact rfl
  | false =>
    repeat' (first | refine Both.mk ?_ ?_ | refine And.intro (by first | (show (_ : Bool) = true; kernel_rfl) | omega | (dsimp only; omega) | (simp only [ByteArray.size_append]; omega) | decide | (repeat' (first | refine And.intro ?_ ?_ | exact trivial | exact rfl))) ?_ | refine bcs_dec (fun h => ?_) (fun h => False.elim (by first | omega | exact h rfl)) | refine bcs_dec (fun h => False.elim (by omega)) (fun h => ?_) | refine bcs_dec (fun h => ?_) (fun h => ?_) | refine bcs_ndec (fun h => ?_) (fun h => ?_) | refine bcs_not ?_ | refine And.intro ?_ ?_)
    by_cases he : u = []
    · subst he
      refine bcs_t (by rw [eqE]; rfl) ?_
      repeat' (first | refine Both.mk ?_ ?_ | refine And.intro (by first | (show (_ : Bool) = true; kernel_rfl) | omega | (dsimp only; omega) | (simp only [ByteArray.size_append]; omega) | decide | (repeat' (first | refine And.intro ?_ ?_ | exact trivial | exact rfl))) ?_ | refine bcs_dec (fun h => ?_) (fun h => False.elim (by first | omega | exact h rfl)) | refine bcs_dec (fun h => False.elim (by omega)) (fun h => ?_) | refine bcs_dec (fun h => ?_) (fun h => ?_) | refine bcs_ndec (fun h => ?_) (fun h => ?_) | refine bcs_not ?_ | refine And.intro ?_ ?_)
      refine ret_plain ?_
      rw [hT]
      exact rfl
    · refine bcs_f (by rw [eqE]; simp [he]) ?_
      repeat' (first | refine Both.mk ?_ ?_ | refine And.intro (by first | (show (_ : Bool) = true; kernel_rfl) | omega | (dsimp only; omega) | (simp only [ByteArray.size_append]; omega) | decide | (repeat' (first | refine And.intro ?_ ?_ | exact trivial | exact rfl))) ?_ | refine bcs_dec (fun h => ?_) (fun h => False.elim (by first | omega | exact h rfl)) | refine bcs_dec (fun h => False.elim (by omega)) (fun h => ?_) | refine bcs_dec (fun h => ?_) (fun h => ?_) | refine bcs_ndec (fun h => ?_) (fun h => ?_) | refine bcs_not ?_ | refine And.intro ?_ ?_)
      have cW := rWhole_con u (by omega)
      cases hw : wholeF u with
      | true =>
        rw [hw] at cW
        refine call_rule [] (cW) hG ?_ ?_
        · (refine ⟨?_, ?_, rfl, rfl, rfl⟩ <;> repeat' (first | refine And.intro ?_ ?_ | exact trivial | exact rfl | refine lt0 | refine lt1 ?_ | refine lt2 ?_ ?_ | refine lt3 ?_ ?_ ?_ | refine lt4 ?_ ?_ ?_ ?_ | exact veq_refl _ | decide | (intro i hi; repeat' (first | refine And.intro ?_ ?_ | exact trivial | exact rfl))))
          all_goals first | exact Nat.le_refl _ | omega
        rintro _ _ _ ⟨rfl, rfl, rfl⟩
        repeat' (first | refine Both.mk ?_ ?_ | refine And.intro (by first | (show (_ : Bool) = true; kernel_rfl) | omega | (dsimp only; omega) | (simp only [ByteArray.size_append]; omega) | decide | (repeat' (first | refine And.intro ?_ ?_ | exact trivial | exact rfl))) ?_ | refine bcs_dec (fun h => ?_) (fun h => False.elim (by first | omega | exact h rfl)) | refine bcs_dec (fun h => False.elim (by omega)) (fun h => ?_) | refine bcs_dec (fun h => ?_) (fun h => ?_) | refine bcs_ndec (fun h => ?_) (fun h => ?_) | refine bcs_not ?_ | refine And.intro ?_ ?_)
        refine ret_plain ?_
        rw [hT, show addE false u = u by unfold addE; simp [hw]]
        exact rfl
      | false =>
        rw [hw] at cW
        refine call_rule [] (cW) hG ?_ ?_
        · (refine ⟨?_, ?_, rfl, rfl, rfl⟩ <;> repeat' (first | refine And.intro ?_ ?_ | exact trivial | exact rfl | refine lt0 | refine lt1 ?_ | refine lt2 ?_ ?_ | refine lt3 ?_ ?_ ?_ | refine lt4 ?_ ?_ ?_ ?_ | exact veq_refl _ | decide | (intro i hi; repeat' (first | refine And.intro ?_ ?_ | exact trivial | exact rfl))))
          all_goals first | exact Nat.le_refl _ | omega
        rintro _ _ _ ⟨rfl, rfl, rfl⟩
        repeat' (first | refine Both.mk ?_ ?_ | refine And.intro (by first | (show (_ : Bool) = true; kernel_rfl) | omega | (dsimp only; omega) | (simp only [ByteArray.size_append]; omega) | decide | (repeat' (first | refine And.intro ?_ ?_ | exact trivial | exact rfl))) ?_ | refine bcs_dec (fun h => ?_) (fun h => False.elim (by first | omega | exact h rfl)) | refine bcs_dec (fun h => False.elim (by omega)) (fun h => ?_) | refine bcs_dec (fun h => ?_) (fun h => ?_) | refine bcs_ndec (fun h => ?_) (fun h => ?_) | refine bcs_not ?_ | refine And.intro ?_ ?_)
        refine ret_plain ?_
        rw [hT, show addE false u = u ++ [10] by unfold addE; simp [hw, he]]
        exact veq_of_eq (congrArg Value.string (bs_app u [10]).symm)
set_option maxRecDepth 100000 in
set_option maxHeartbeats 64000000 in
theorem toldB_con (b m y lab : List Byt) (fmt : Int) (c : Chk) (last : Bool) (H : ToldOk b m y lab fmt c) (hc : c.k = 5 ∧ fmt = 3) :
    Con Tryd.prog glob 35 [ckV c, .s 0 0 b.length, .s 1 0 m.length, .s 2 0 y.length, .s 3 0 lab.length, .v (.int .i64 fmt), .v (.bool last)] [(0, stRo b), (1, stRo m), (2, stRo y), (3, stRo lab)] 4 (retV 4 (str (toldF b m y lab fmt c last))) := by
  obtain ⟨hb, hm, hy, hlab, hbl, hml, hyl, hl3, hf1, hf2, hb1, hb2, hb3, hm1, hm2, hm3, hy1, hy2, hy3⟩ := H
  have s1 := seg_len m (show 0 ≤ c.m by omega) (show c.m ≤ c.m + c.mn by omega) (by omega)
  have s2 := seg_len y (show 0 ≤ c.y by omega) (show c.y ≤ c.y + c.yn by omega) (by omega)
  have s3 := seg_len b (show 0 ≤ c.b by omega) (show c.b ≤ c.b + c.bn by omega) (by omega)
  have t1 := seg_flat m c.m (c.m + c.mn)
  have t2 := seg_flat y c.y (c.y + c.yn)
  have t3 := seg_flat b c.b (c.b + c.bn)
  have u1 := addE_len (segL m c.m (c.m + c.mn)).flatten false
  have u2 := addE_len (segL y c.y (c.y + c.yn)).flatten false
  have u3 := addE_len (segL b c.b (c.b + c.bn)).flatten false
  obtain ⟨T, hT⟩ : ∃ T, T = toldF b m y lab fmt c last := ⟨_, rfl⟩
  rw [← hT]
  unfold toldF at hT
  have y0 : (bs (lab.getD (0 + Int.toNat 0) [])).size ≤ 4096 := by rw [bs_size]; exact hlab _
  have y1 : (bs (lab.getD (0 + Int.toNat 1) [])).size ≤ 4096 := by rw [bs_size]; exact hlab _
  have y2 : (bs (lab.getD (0 + Int.toNat 2) [])).size ≤ 4096 := by rw [bs_size]; exact hlab _
  have z1 := bs_size (addE false (segL m c.m (c.m + c.mn)).flatten)
  have z2 := bs_size (addE false (segL y c.y (c.y + c.yn)).flatten)
  have z3 := bs_size (addE false (segL b c.b (c.b + c.bn)).flatten)
  have z4 := bs_size (segL y c.y (c.y + c.yn)).flatten
  rw [told_B hc] at hT
  have h10 : (ByteArray.mk #[10]).size = 1 := rfl
  have h60 : (ByteArray.mk #[60, 60, 60, 60, 60, 60, 60, 32]).size = 8 := rfl
  have h124 : (ByteArray.mk #[124, 124, 124, 124, 124, 124, 124, 32]).size = 8 := rfl
  have h62 : (ByteArray.mk #[62, 62, 62, 62, 62, 62, 62, 32]).size = 8 := rfl
  have h61 : (ByteArray.mk #[61, 61, 61, 61, 61, 61, 61, 10]).size = 8 := rfl
  refine spec_intro (tab := tab) (N := 127) Tryd.func35 rfl rfl tab_ok mix rfl rfl _ rfl ?_
  intro B hG
  repeat' (first | refine Both.mk ?_ ?_ | refine And.intro (by first | (show (_ : Bool) = true; kernel_rfl) | omega | (dsimp only; omega) | (simp only [ByteArray.size_append]; omega) | decide | (repeat' (first | refine And.intro ?_ ?_ | exact trivial | exact rfl))) ?_ | refine bcs_dec (fun h => ?_) (fun h => False.elim (by first | omega | exact h rfl)) | refine bcs_dec (fun h => False.elim (by omega)) (fun h => ?_) | refine bcs_dec (fun h => ?_) (fun h => ?_) | refine bcs_ndec (fun h => ?_) (fun h => ?_) | refine bcs_not ?_ | refine And.intro ?_ ?_)
  refine call_rule [.at 1 (c.m).toNat] ((rJoin_con (segL m c.m (c.m + c.mn)) (fun k => m.getD (k + (c.m).toNat) []) (by omega) (by omega) (seg_row m (by omega) (by omega) (by omega)))) hG ?_ ?_
  · (refine ⟨?_, ?_, rfl, rfl, rfl⟩ <;> repeat' (first | refine And.intro ?_ ?_ | exact trivial | exact rfl | refine lt0 | refine lt1 ?_ | refine lt2 ?_ ?_ | refine lt3 ?_ ?_ ?_ | refine lt4 ?_ ?_ ?_ ?_ | exact veq_refl _ | decide | (intro i hi; repeat' (first | refine And.intro ?_ ?_ | exact trivial | exact rfl))))
    all_goals first | exact Nat.le_refl _ | omega
  rintro _ _ _ ⟨rfl, rfl, rfl⟩
  repeat' (first | refine Both.mk ?_ ?_ | refine And.intro (by first | (show (_ : Bool) = true; kernel_rfl) | omega | (dsimp only; omega) | (simp only [ByteArray.size_append]; omega) | decide | (repeat' (first | refine And.intro ?_ ?_ | exact trivial | exact rfl))) ?_ | refine bcs_dec (fun h => ?_) (fun h => False.elim (by first | omega | exact h rfl)) | refine bcs_dec (fun h => False.elim (by omega)) (fun h => ?_) | refine bcs_dec (fun h => ?_) (fun h => ?_) | refine bcs_ndec (fun h => ?_) (fun h => ?_) | refine bcs_not ?_ | refine And.intro ?_ ?_)
  refine call_rule [.at 1 (c.m).toNat] ((ended_con (segL m c.m (c.m + c.mn)) (fun k => m.getD (k + (c.m).toNat) []) (by omega) (by omega) (seg_row m (by omega) (by omega) (by omega)))) hG ?_ ?_
  · (refine ⟨?_, ?_, rfl, rfl, rfl⟩ <;> repeat' (first | refine And.intro ?_ ?_ | exact trivial | exact rfl | refine lt0 | refine lt1 ?_ | refine lt2 ?_ ?_ | refine lt3 ?_ ?_ ?_ | refine lt4 ?_ ?_ ?_ ?_ | exact veq_refl _ | decide | (intro i hi; repeat' (first | refine And.intro ?_ ?_ | exact trivial | exact rfl))))
    all_goals first | exact Nat.le_refl _ | omega
  rintro _ _ _ ⟨rfl, rfl, rfl⟩
  repeat' (first | refine Both.mk ?_ ?_ | refine And.intro (by first | (show (_ : Bool) = true; kernel_rfl) | omega | (dsimp only; omega) | (simp only [ByteArray.size_append]; omega) | decide | (repeat' (first | refine And.intro ?_ ?_ | exact trivial | exact rfl))) ?_ | refine bcs_dec (fun h => ?_) (fun h => False.elim (by first | omega | exact h rfl)) | refine bcs_dec (fun h => False.elim (by omega)) (fun h => ?_) | refine bcs_dec (fun h => ?_) (fun h => ?_) | refine bcs_ndec (fun h => ?_) (fun h => ?_) | refine bcs_not ?_ | refine And.intro ?_ ?_)
  refine call_rule [.at 2 (c.y).toNat] ((rJoin_con (segL y c.y (c.y + c.yn)) (fun k => y.getD (k + (c.y).toNat) []) (by omega) (by omega) (seg_row y (by omega) (by omega) (by omega)))) hG ?_ ?_
  · (refine ⟨?_, ?_, rfl, rfl, rfl⟩ <;> repeat' (first | refine And.intro ?_ ?_ | exact trivial | exact rfl | refine lt0 | refine lt1 ?_ | refine lt2 ?_ ?_ | refine lt3 ?_ ?_ ?_ | refine lt4 ?_ ?_ ?_ ?_ | exact veq_refl _ | decide | (intro i hi; repeat' (first | refine And.intro ?_ ?_ | exact trivial | exact rfl))))
    all_goals first | exact Nat.le_refl _ | omega
  rintro _ _ _ ⟨rfl, rfl, rfl⟩
  repeat' (first | refine Both.mk ?_ ?_ | refine And.intro (by first | (show (_ : Bool) = true; kernel_rfl) | omega | (dsimp only; omega) | (simp only [ByteArray.size_append]; omega) | decide | (repeat' (first | refine And.intro ?_ ?_ | exact trivial | exact rfl))) ?_ | refine bcs_dec (fun h => ?_) (fun h => False.elim (by first | omega | exact h rfl)) | refine bcs_dec (fun h => False.elim (by omega)) (fun h => ?_) | refine bcs_dec (fun h => ?_) (fun h => ?_) | refine bcs_ndec (fun h => ?_) (fun h => ?_) | refine bcs_not ?_ | refine And.intro ?_ ?_)
  rw [bs_app]
  generalize hu : addE false (segL m c.m (c.m + c.mn)).flatten ++ (segL y c.y (c.y + c.yn)).flatten = u at hT
  have hul : u.length ≤ 100000000 := by rw [← hu, List.length_append]; omega
  have hsz : (bs u).size = u.length := bs_size u
  cases last with
  | true =>
    repeat' (first | refine Both.mk ?_ ?_ | refine And.intro (by first | (show (_ : Bool) = true; kernel_rfl) | omega | (dsimp only; omega) | (simp only [ByteArray.size_append]; omega) | decide | (repeat' (first | refine And.intro ?_ ?_ | exact trivial | exact rfl))) ?_ | refine bcs_dec (fun h => ?_) (fun h => False.elim (by first | omega | exact h rfl)) | refine bcs_dec (fun h => False.elim (by omega)) (fun h => ?_) | refine bcs_dec (fun h => ?_) (fun h => ?_) | refine bcs_ndec (fun h => ?_) (fun h => ?_) | refine bcs_not ?_ | refine And.intro ?_ ?_)
    refine ret_plain ?_
    rw [hT]
    exact rfl
  | false =>
    repeat' (first | refine Both.mk ?_ ?_ | refine And.intro (by first | (show (_ : Bool) = true; kernel_rfl) | omega | (dsimp only; omega) | (simp only [ByteArray.size_append]; omega) | decide | (repeat' (first | refine And.intro ?_ ?_ | exact trivial | exact rfl))) ?_ | refine bcs_dec (fun h => ?_) (fun h => False.elim (by first | omega | exact h rfl)) | refine bcs_dec (fun h => False.elim (by omega)) (fun h => ?_) | refine bcs_dec (fun h => ?_) (fun h => ?_) | refine bcs_ndec (fun h => ?_) (fun h => ?_) | refine bcs_not ?_ | refine And.intro ?_ ?_)
    by_cases he : u = []
    · subst he
      refine bcs_t (by rw [eqE]; rfl) ?_
      repeat' (first | refine Both.mk ?_ ?_ | refine And.intro (by first | (show (_ : Bool) = true; kernel_rfl) | omega | (dsimp only; omega) | (simp only [ByteArray.size_append]; omega) | decide | (repeat' (first | refine And.intro ?_ ?_ | exact trivial | exact rfl))) ?_ | refine bcs_dec (fun h => ?_) (fun h => False.elim (by first | omega | exact h rfl)) | refine bcs_dec (fun h => False.elim (by omega)) (fun h => ?_) | refine bcs_dec (fun h => ?_) (fun h => ?_) | refine bcs_ndec (fun h => ?_) (fun h => ?_) | refine bcs_not ?_ | refine And.intro ?_ ?_)
      refine ret_plain ?_
      rw [hT]
      exact rfl
    · refine bcs_f (by rw [eqE]; simp [he]) ?_
      repeat' (first | refine Both.mk ?_ ?_ | refine And.intro (by first | (show (_ : Bool) = true; kernel_rfl) | omega | (dsimp only; omega) | (simp only [ByteArray.size_append]; omega) | decide | (repeat' (first | refine And.intro ?_ ?_ | exact trivial | exact rfl))) ?_ | refine bcs_dec (fun h => ?_) (fun h => False.elim (by first | omega | exact h rfl)) | refine bcs_dec (fun h => False.elim (by omega)) (fun h => ?_) | refine bcs_dec (fun h => ?_) (fun h => ?_) | refine bcs_ndec (fun h => ?_) (fun h => ?_) | refine bcs_not ?_ | refine And.intro ?_ ?_)
      have cW := rWhole_con u (by omega)
      cases hw : wholeF u with
      | true =>
        rw [hw] at cW
        refine call_rule [] (cW) hG ?_ ?_
        · (refine ⟨?_, ?_, rfl, rfl, rfl⟩ <;> repeat' (first | refine And.intro ?_ ?_ | exact trivial | exact rfl | refine lt0 | refine lt1 ?_ | refine lt2 ?_ ?_ | refine lt3 ?_ ?_ ?_ | refine lt4 ?_ ?_ ?_ ?_ | exact veq_refl _ | decide | (intro i hi; repeat' (first | refine And.intro ?_ ?_ | exact trivial | exact rfl))))
          all_goals first | exact Nat.le_refl _ | omega
        rintro _ _ _ ⟨rfl, rfl, rfl⟩
        repeat' (first | refine Both.mk ?_ ?_ | refine And.intro (by first | (show (_ : Bool) = true; kernel_rfl) | omega | (dsimp only; omega) | (simp only [ByteArray.size_append]; omega) | decide | (repeat' (first | refine And.intro ?_ ?_ | exact trivial | exact rfl))) ?_ | refine bcs_dec (fun h => ?_) (fun h => False.elim (by first | omega | exact h rfl)) | refine bcs_dec (fun h => False.elim (by omega)) (fun h => ?_) | refine bcs_dec (fun h => ?_) (fun h => ?_) | refine bcs_ndec (fun h => ?_) (fun h => ?_) | refine bcs_not ?_ | refine And.intro ?_ ?_)
        refine ret_plain ?_
        rw [hT, show addE false u = u by unfold addE; simp [hw]]
        exact rfl
      | false =>
        rw [hw] at cW
        refine call_rule [] (cW) hG ?_ ?_
        · (refine ⟨?_, ?_, rfl, rfl, rfl⟩ <;> repeat' (first | refine And.intro ?_ ?_ | exact trivial | exact rfl | refine lt0 | refine lt1 ?_ | refine lt2 ?_ ?_ | refine lt3 ?_ ?_ ?_ | refine lt4 ?_ ?_ ?_ ?_ | exact veq_refl _ | decide | (intro i hi; repeat' (first | refine And.intro ?_ ?_ | exact trivial | exact rfl))))
          all_goals first | exact Nat.le_refl _ | omega
        rintro _ _ _ ⟨rfl, rfl, rfl⟩
        repeat' (first | refine Both.mk ?_ ?_ | refine And.intro (by first | (show (_ : Bool) = true; kernel_rfl) | omega | (dsimp only; omega) | (simp only [ByteArray.size_append]; omega) | decide | (repeat' (first | refine And.intro ?_ ?_ | exact trivial | exact rfl))) ?_ | refine bcs_dec (fun h => ?_) (fun h => False.elim (by first | omega | exact h rfl)) | refine bcs_dec (fun h => False.elim (by omega)) (fun h => ?_) | refine bcs_dec (fun h => ?_) (fun h => ?_) | refine bcs_ndec (fun h => ?_) (fun h => ?_) | refine bcs_not ?_ | refine And.intro ?_ ?_)
        refine ret_plain ?_
        rw [hT, show addE false u = u ++ [10] by unfold addE; simp [hw, he]]
        exact veq_of_eq (congrArg Value.string (bs_app u [10]).symm)
set_option maxRecDepth 100000 in
set_option maxHeartbeats 64000000 in
theorem toldD1_con (b m y lab : List Byt) (fmt : Int) (c : Chk) (last : Bool) (H : ToldOk b m y lab fmt c) (hc : c.k = 5 ∧ fmt = 4) :
    Con Tryd.prog glob 35 [ckV c, .s 0 0 b.length, .s 1 0 m.length, .s 2 0 y.length, .s 3 0 lab.length, .v (.int .i64 fmt), .v (.bool last)] [(0, stRo b), (1, stRo m), (2, stRo y), (3, stRo lab)] 4 (retV 4 (str (toldF b m y lab fmt c last))) := by
  obtain ⟨hb, hm, hy, hlab, hbl, hml, hyl, hl3, hf1, hf2, hb1, hb2, hb3, hm1, hm2, hm3, hy1, hy2, hy3⟩ := H
  have s1 := seg_len m (show 0 ≤ c.m by omega) (show c.m ≤ c.m + c.mn by omega) (by omega)
  have s2 := seg_len y (show 0 ≤ c.y by omega) (show c.y ≤ c.y + c.yn by omega) (by omega)
  have s3 := seg_len b (show 0 ≤ c.b by omega) (show c.b ≤ c.b + c.bn by omega) (by omega)
  have t1 := seg_flat m c.m (c.m + c.mn)
  have t2 := seg_flat y c.y (c.y + c.yn)
  have t3 := seg_flat b c.b (c.b + c.bn)
  have u1 := addE_len (segL m c.m (c.m + c.mn)).flatten false
  have u2 := addE_len (segL y c.y (c.y + c.yn)).flatten false
  have u3 := addE_len (segL b c.b (c.b + c.bn)).flatten false
  obtain ⟨T, hT⟩ : ∃ T, T = toldF b m y lab fmt c last := ⟨_, rfl⟩
  rw [← hT]
  unfold toldF at hT
  have y0 : (bs (lab.getD (0 + Int.toNat 0) [])).size ≤ 4096 := by rw [bs_size]; exact hlab _
  have y1 : (bs (lab.getD (0 + Int.toNat 1) [])).size ≤ 4096 := by rw [bs_size]; exact hlab _
  have y2 : (bs (lab.getD (0 + Int.toNat 2) [])).size ≤ 4096 := by rw [bs_size]; exact hlab _
  have z1 := bs_size (addE false (segL m c.m (c.m + c.mn)).flatten)
  have z2 := bs_size (addE false (segL y c.y (c.y + c.yn)).flatten)
  have z3 := bs_size (addE false (segL b c.b (c.b + c.bn)).flatten)
  have z4 := bs_size (segL y c.y (c.y + c.yn)).flatten
  rw [told_D1 hc] at hT
  have h10 : (ByteArray.mk #[10]).size = 1 := rfl
  have h60 : (ByteArray.mk #[60, 60, 60, 60, 60, 60, 60, 32]).size = 8 := rfl
  have h124 : (ByteArray.mk #[124, 124, 124, 124, 124, 124, 124, 32]).size = 8 := rfl
  have h62 : (ByteArray.mk #[62, 62, 62, 62, 62, 62, 62, 32]).size = 8 := rfl
  have h61 : (ByteArray.mk #[61, 61, 61, 61, 61, 61, 61, 10]).size = 8 := rfl
  refine spec_intro (tab := tab) (N := 127) Tryd.func35 rfl rfl tab_ok mix rfl rfl _ rfl ?_
  intro B hG
  repeat' (first | refine Both.mk ?_ ?_ | refine And.intro (by first | (show (_ : Bool) = true; kernel_rfl) | omega | (dsimp only; omega) | (simp only [ByteArray.size_append]; omega) | decide | (repeat' (first | refine And.intro ?_ ?_ | exact trivial | exact rfl))) ?_ | refine bcs_dec (fun h => ?_) (fun h => False.elim (by first | omega | exact h rfl)) | refine bcs_dec (fun h => False.elim (by omega)) (fun h => ?_) | refine bcs_dec (fun h => ?_) (fun h => ?_) | refine bcs_ndec (fun h => ?_) (fun h => ?_) | refine bcs_not ?_ | refine And.intro ?_ ?_)
  refine call_rule [.at 1 (c.m).toNat] ((rJoin_con (segL m c.m (c.m + c.mn)) (fun k => m.getD (k + (c.m).toNat) []) (by omega) (by omega) (seg_row m (by omega) (by omega) (by omega)))) hG ?_ ?_
  · (refine ⟨?_, ?_, rfl, rfl, rfl⟩ <;> repeat' (first | refine And.intro ?_ ?_ | exact trivial | exact rfl | refine lt0 | refine lt1 ?_ | refine lt2 ?_ ?_ | refine lt3 ?_ ?_ ?_ | refine lt4 ?_ ?_ ?_ ?_ | exact veq_refl _ | decide | (intro i hi; repeat' (first | refine And.intro ?_ ?_ | exact trivial | exact rfl))))
    all_goals first | exact Nat.le_refl _ | omega
  rintro _ _ _ ⟨rfl, rfl, rfl⟩
  repeat' (first | refine Both.mk ?_ ?_ | refine And.intro (by first | (show (_ : Bool) = true; kernel_rfl) | omega | (dsimp only; omega) | (simp only [ByteArray.size_append]; omega) | decide | (repeat' (first | refine And.intro ?_ ?_ | exact trivial | exact rfl))) ?_ | refine bcs_dec (fun h => ?_) (fun h => False.elim (by first | omega | exact h rfl)) | refine bcs_dec (fun h => False.elim (by omega)) (fun h => ?_) | refine bcs_dec (fun h => ?_) (fun h => ?_) | refine bcs_ndec (fun h => ?_) (fun h => ?_) | refine bcs_not ?_ | refine And.intro ?_ ?_)
  have fm := seg_flat m c.m (c.m + c.mn)
  generalize hu : (segL m c.m (c.m + c.mn)).flatten = u at hT fm
  have hsz : (bs u).size = u.length := bs_size u
  cases last with
  | true =>
    repeat' (first | refine Both.mk ?_ ?_ | refine And.intro (by first | (show (_ : Bool) = true; kernel_rfl) | omega | (dsimp only; omega) | (simp only [ByteArray.size_append]; omega) | decide | (repeat' (first | refine And.intro ?_ ?_ | exact trivial | exact rfl))) ?_ | refine bcs_dec (fun h => ?_) (fun h => False.elim (by first | omega | exact h rfl)) | refine bcs_dec (fun h => False.elim (by omega)) (fun h => ?_) | refine bcs_dec (fun h => ?_) (fun h => ?_) | refine bcs_ndec (fun h => ?_) (fun h => ?_) | refine bcs_not ?_ | refine And.intro ?_ ?_)
    refine ret_plain ?_
    rw [hT]
    exact rfl
  | false =>
    repeat' (first | refine Both.mk ?_ ?_ | refine And.intro (by first | (show (_ : Bool) = true; kernel_rfl) | omega | (dsimp only; omega) | (simp only [ByteArray.size_append]; omega) | decide | (repeat' (first | refine And.intro ?_ ?_ | exact trivial | exact rfl))) ?_ | refine bcs_dec (fun h => ?_) (fun h => False.elim (by first | omega | exact h rfl)) | refine bcs_dec (fun h => False.elim (by omega)) (fun h => ?_) | refine bcs_dec (fun h => ?_) (fun h => ?_) | refine bcs_ndec (fun h => ?_) (fun h => ?_) | refine bcs_not ?_ | refine And.intro ?_ ?_)
    by_cases he : u = []
    · subst he
      refine bcs_t (by rw [eqE]; rfl) ?_
      repeat' (first | refine Both.mk ?_ ?_ | refine And.intro (by first | (show (_ : Bool) = true; kernel_rfl) | omega | (dsimp only; omega) | (simp only [ByteArray.size_append]; omega) | decide | (repeat' (first | refine And.intro ?_ ?_ | exact trivial | exact rfl))) ?_ | refine bcs_dec (fun h => ?_) (fun h => False.elim (by first | omega | exact h rfl)) | refine bcs_dec (fun h => False.elim (by omega)) (fun h => ?_) | refine bcs_dec (fun h => ?_) (fun h => ?_) | refine bcs_ndec (fun h => ?_) (fun h => ?_) | refine bcs_not ?_ | refine And.intro ?_ ?_)
      refine ret_plain ?_
      rw [hT]
      exact rfl
    · refine bcs_f (by rw [eqE]; simp [he]) ?_
      repeat' (first | refine Both.mk ?_ ?_ | refine And.intro (by first | (show (_ : Bool) = true; kernel_rfl) | omega | (dsimp only; omega) | (simp only [ByteArray.size_append]; omega) | decide | (repeat' (first | refine And.intro ?_ ?_ | exact trivial | exact rfl))) ?_ | refine bcs_dec (fun h => ?_) (fun h => False.elim (by first | omega | exact h rfl)) | refine bcs_dec (fun h => False.elim (by omega)) (fun h => ?_) | refine bcs_dec (fun h => ?_) (fun h => ?_) | refine bcs_ndec (fun h => ?_) (fun h => ?_) | refine bcs_not ?_ | refine And.intro ?_ ?_)
      have cW := rWhole_con u (by omega)
      cases hw : wholeF u with
      | true =>
        rw [hw] at cW
        refine call_rule [] (cW) hG ?_ ?_
        · (refine ⟨?_, ?_, rfl, rfl, rfl⟩ <;> repeat' (first | refine And.intro ?_ ?_ | exact trivial | exact rfl | refine lt0 | refine lt1 ?_ | refine lt2 ?_ ?_ | refine lt3 ?_ ?_ ?_ | refine lt4 ?_ ?_ ?_ ?_ | exact veq_refl _ | decide | (intro i hi; repeat' (first | refine And.intro ?_ ?_ | exact trivial | exact rfl))))
          all_goals first | exact Nat.le_refl _ | omega
        rintro _ _ _ ⟨rfl, rfl, rfl⟩
        repeat' (first | refine Both.mk ?_ ?_ | refine And.intro (by first | (show (_ : Bool) = true; kernel_rfl) | omega | (dsimp only; omega) | (simp only [ByteArray.size_append]; omega) | decide | (repeat' (first | refine And.intro ?_ ?_ | exact trivial | exact rfl))) ?_ | refine bcs_dec (fun h => ?_) (fun h => False.elim (by first | omega | exact h rfl)) | refine bcs_dec (fun h => False.elim (by omega)) (fun h => ?_) | refine bcs_dec (fun h => ?_) (fun h => ?_) | refine bcs_ndec (fun h => ?_) (fun h => ?_) | refine bcs_not ?_ | refine And.intro ?_ ?_)
        refine ret_plain ?_
        rw [hT, show addE false u = u by unfold addE; simp [hw]]
        exact rfl
      | false =>
        rw [hw] at cW
        refine call_rule [] (cW) hG ?_ ?_
        · (refine ⟨?_, ?_, rfl, rfl, rfl⟩ <;> repeat' (first | refine And.intro ?_ ?_ | exact trivial | exact rfl | refine lt0 | refine lt1 ?_ | refine lt2 ?_ ?_ | refine lt3 ?_ ?_ ?_ | refine lt4 ?_ ?_ ?_ ?_ | exact veq_refl _ | decide | (intro i hi; repeat' (first | refine And.intro ?_ ?_ | exact trivial | exact rfl))))
          all_goals first | exact Nat.le_refl _ | omega
        rintro _ _ _ ⟨rfl, rfl, rfl⟩
        repeat' (first | refine Both.mk ?_ ?_ | refine And.intro (by first | (show (_ : Bool) = true; kernel_rfl) | omega | (dsimp only; omega) | (simp only [ByteArray.size_append]; omega) | decide | (repeat' (first | refine And.intro ?_ ?_ | exact trivial | exact rfl))) ?_ | refine bcs_dec (fun h => ?_) (fun h => False.elim (by first | omega | exact h rfl)) | refine bcs_dec (fun h => False.elim (by omega)) (fun h => ?_) | refine bcs_dec (fun h => ?_) (fun h => ?_) | refine bcs_ndec (fun h => ?_) (fun h => ?_) | refine bcs_not ?_ | refine And.intro ?_ ?_)
        refine ret_plain ?_
        rw [hT, show addE false u = u ++ [10] by unfold addE; simp [hw, he]]
        exact veq_of_eq (congrArg Value.string (bs_app u [10]).symm)
end Go.Proofs.YtlmjkphiicmclaaDoor

namespace Go.Proofs.YtlmjkphiicmclaaDoor
open Go Go.RowKit Vc

set_option maxRecDepth 100000 in
set_option maxHeartbeats 64000000 in
theorem toldC1_con (b m y lab : List Byt) (fmt : Int) (c : Chk) (last : Bool) (H : ToldOk b m y lab fmt c) (hc : c.k = 5 ∧ fmt = 1) :
    Con Tryd.prog glob 35 [ckV c, .s 0 0 b.length, .s 1 0 m.length, .s 2 0 y.length, .s 3 0 lab.length, .v (.int .i64 fmt), .v (.bool last)] [(0, stRo b), (1, stRo m), (2, stRo y), (3, stRo lab)] 4 (retV 4 (str (toldF b m y lab fmt c last))) := by
  obtain ⟨hb, hm, hy, hlab, hbl, hml, hyl, hl3, hf1, hf2, hb1, hb2, hb3, hm1, hm2, hm3, hy1, hy2, hy3⟩ := H
  have s1 := seg_len m (show 0 ≤ c.m by omega) (show c.m ≤ c.m + c.mn by omega) (by omega)
  have s2 := seg_len y (show 0 ≤ c.y by omega) (show c.y ≤ c.y + c.yn by omega) (by omega)
  have s3 := seg_len b (show 0 ≤ c.b by omega) (show c.b ≤ c.b + c.bn by omega) (by omega)
  have t1 := seg_flat m c.m (c.m + c.mn)
  have t2 := seg_flat y c.y (c.y + c.yn)
  have t3 := seg_flat b c.b (c.b + c.bn)
  have u1 := addE_len (segL m c.m (c.m + c.mn)).flatten false
  have u2 := addE_len (segL y c.y (c.y + c.yn)).flatten false
  have u3 := addE_len (segL b c.b (c.b + c.bn)).flatten false
  obtain ⟨T, hT⟩ : ∃ T, T = toldF b m y lab fmt c last := ⟨_, rfl⟩
  rw [← hT]
  unfold toldF at hT
  have y0 : (bs (lab.getD (0 + Int.toNat 0) [])).size ≤ 4096 := by rw [bs_size]; exact hlab _
  have y1 : (bs (lab.getD (0 + Int.toNat 1) [])).size ≤ 4096 := by rw [bs_size]; exact hlab _
  have y2 : (bs (lab.getD (0 + Int.toNat 2) [])).size ≤ 4096 := by rw [bs_size]; exact hlab _
  have z1 := bs_size (addE false (segL m c.m (c.m + c.mn)).flatten)
  have z2 := bs_size (addE false (segL y c.y (c.y + c.yn)).flatten)
  have z3 := bs_size (addE false (segL b c.b (c.b + c.bn)).flatten)
  have z4 := bs_size (segL y c.y (c.y + c.yn)).flatten
  rw [told_C1 hc] at hT
  have h10 : (ByteArray.mk #[10]).size = 1 := rfl
  have h60 : (ByteArray.mk #[60, 60, 60, 60, 60, 60, 60, 32]).size = 8 := rfl
  have h124 : (ByteArray.mk #[124, 124, 124, 124, 124, 124, 124, 32]).size = 8 := rfl
  have h62 : (ByteArray.mk #[62, 62, 62, 62, 62, 62, 62, 32]).size = 8 := rfl
  have h61 : (ByteArray.mk #[61, 61, 61, 61, 61, 61, 61, 10]).size = 8 := rfl
  refine spec_intro (tab := tab) (N := 127) Tryd.func35 rfl rfl tab_ok mix rfl rfl _ rfl ?_
  intro B hG
  repeat' (first | refine Both.mk ?_ ?_ | refine And.intro (by first | (show (_ : Bool) = true; kernel_rfl) | omega | (dsimp only; omega) | (simp only [ByteArray.size_append]; omega) | decide | (repeat' (first | refine And.intro ?_ ?_ | exact trivial | exact rfl))) ?_ | refine bcs_dec (fun h => ?_) (fun h => False.elim (by first | omega | exact h rfl)) | refine bcs_dec (fun h => False.elim (by omega)) (fun h => ?_) | refine bcs_dec (fun h => ?_) (fun h => ?_) | refine bcs_ndec (fun h => ?_) (fun h => ?_) | refine bcs_not ?_ | refine And.intro ?_ ?_)
  refine call_rule [.at 1 (c.m).toNat] ((rJoin_con (segL m c.m (c.m + c.mn)) (fun k => m.getD (k + (c.m).toNat) []) (by omega) (by omega) (seg_row m (by omega) (by omega) (by omega)))) hG ?_ ?_
  · (refine ⟨?_, ?_, rfl, rfl, rfl⟩ <;> repeat' (first | refine And.intro ?_ ?_ | exact trivial | exact rfl | refine lt0 | refine lt1 ?_ | refine lt2 ?_ ?_ | refine lt3 ?_ ?_ ?_ | refine lt4 ?_ ?_ ?_ ?_ | exact veq_refl _ | decide | (intro i hi; repeat' (first | refine And.intro ?_ ?_ | exact trivial | exact rfl))))
    all_goals first | exact Nat.le_refl _ | omega
  rintro _ _ _ ⟨rfl, rfl, rfl⟩
  repeat' (first | refine Both.mk ?_ ?_ | refine And.intro (by first | (show (_ : Bool) = true; kernel_rfl) | omega | (dsimp only; omega) | (simp only [ByteArray.size_append]; omega) | decide | (repeat' (first | refine And.intro ?_ ?_ | exact trivial | exact rfl))) ?_ | refine bcs_dec (fun h => ?_) (fun h => False.elim (by first | omega | exact h rfl)) | refine bcs_dec (fun h => False.elim (by omega)) (fun h => ?_) | refine bcs_dec (fun h => ?_) (fun h => ?_) | refine bcs_ndec (fun h => ?_) (fun h => ?_) | refine bcs_not ?_ | refine And.intro ?_ ?_)
  refine reg_ord [4] (.early 0 (.early 1 (.early 2 (.early 3 (.early 4 (.late 5 (.late 6 (.late 7 (.late 8 .nil))))))))) (by decide +kernel) rfl ?_
  intro B' hB'
  have hG' := hG
  have hG := hB'.trans hG
  repeat' (first | refine Both.mk ?_ ?_ | refine And.intro (by first | (show (_ : Bool) = true; kernel_rfl) | omega | (dsimp only; omega) | (simp only [ByteArray.size_append]; omega) | decide | (repeat' (first | refine And.intro ?_ ?_ | exact trivial | exact rfl))) ?_ | refine bcs_dec (fun h => ?_) (fun h => False.elim (by first | omega | exact h rfl)) | refine bcs_dec (fun h => False.elim (by omega)) (fun h => ?_) | refine bcs_dec (fun h => ?_) (fun h => ?_) | refine bcs_ndec (fun h => ?_) (fun h => ?_) | refine bcs_not ?_ | refine And.intro ?_ ?_)
  refine call_rule [.at 1 (c.m).toNat] ((ended_con (segL m c.m (c.m + c.mn)) (fun k => m.getD (k + (c.m).toNat) []) (by omega) (by omega) (seg_row m (by omega) (by omega) (by omega)))) hG ?_ ?_
  · (refine ⟨?_, ?_, rfl, rfl, rfl⟩ <;> repeat' (first | refine And.intro ?_ ?_ | exact trivial | exact rfl | refine lt0 | refine lt1 ?_ | refine lt2 ?_ ?_ | refine lt3 ?_ ?_ ?_ | refine lt4 ?_ ?_ ?_ ?_ | exact veq_refl _ | decide | (intro i hi; repeat' (first | refine And.intro ?_ ?_ | exact trivial | exact rfl))))
    all_goals first | exact Nat.le_refl _ | omega
  rintro _ _ _ ⟨rfl, rfl, rfl⟩
  repeat' (first | refine Both.mk ?_ ?_ | refine And.intro (by first | (show (_ : Bool) = true; kernel_rfl) | omega | (dsimp only; omega) | (simp only [ByteArray.size_append]; omega) | decide | (repeat' (first | refine And.intro ?_ ?_ | exact trivial | exact rfl))) ?_ | refine bcs_dec (fun h => ?_) (fun h => False.elim (by first | omega | exact h rfl)) | refine bcs_dec (fun h => False.elim (by omega)) (fun h => ?_) | refine bcs_dec (fun h => ?_) (fun h => ?_) | refine bcs_ndec (fun h => ?_) (fun h => ?_) | refine bcs_not ?_ | refine And.intro ?_ ?_)
  have hG := hG'
  repeat' (first | refine Both.mk ?_ ?_ | refine And.intro (by first | (show (_ : Bool) = true; kernel_rfl) | omega | (dsimp only; omega) | (simp only [ByteArray.size_append]; omega) | decide | (repeat' (first | refine And.intro ?_ ?_ | exact trivial | exact rfl))) ?_ | refine bcs_dec (fun h => ?_) (fun h => False.elim (by first | omega | exact h rfl)) | refine bcs_dec (fun h => False.elim (by omega)) (fun h => ?_) | refine bcs_dec (fun h => ?_) (fun h => ?_) | refine bcs_ndec (fun h => ?_) (fun h => ?_) | refine bcs_not ?_ | refine And.intro ?_ ?_)
  refine reg_ord [4] (.early 0 (.early 1 (.early 2 (.early 6 (.early 7 (.early 8 (.late 3 (.late 4 (.late 5 (.late 9 (.late 10 (.late 11 .nil)))))))))))) (by decide +kernel) rfl ?_
  intro B' hB'
  have hG' := hG
  have hG := hB'.trans hG
  repeat' (first | refine Both.mk ?_ ?_ | refine And.intro (by first | (show (_ : Bool) = true; kernel_rfl) | omega | (dsimp only; omega) | (simp only [ByteArray.size_append]; omega) | decide | (repeat' (first | refine And.intro ?_ ?_ | exact trivial | exact rfl))) ?_ | refine bcs_dec (fun h => ?_) (fun h => False.elim (by first | omega | exact h rfl)) | refine bcs_dec (fun h => False.elim (by omega)) (fun h => ?_) | refine bcs_dec (fun h => ?_) (fun h => ?_) | refine bcs_ndec (fun h => ?_) (fun h => ?_) | refine bcs_not ?_ | refine And.intro ?_ ?_)
  refine call_rule [.at 2 (c.y).toNat] ((ended_con (segL y c.y (c.y + c.yn)) (fun k => y.getD (k + (c.y).toNat) []) (by omega) (by omega) (seg_row y (by omega) (by omega) (by omega)))) hG ?_ ?_
  · (refine ⟨?_, ?_, rfl, rfl, rfl⟩ <;> repeat' (first | refine And.intro ?_ ?_ | exact trivial | exact rfl | refine lt0 | refine lt1 ?_ | refine lt2 ?_ ?_ | refine lt3 ?_ ?_ ?_ | refine lt4 ?_ ?_ ?_ ?_ | exact veq_refl _ | decide | (intro i hi; repeat' (first | refine And.intro ?_ ?_ | exact trivial | exact rfl))))
    all_goals first | exact Nat.le_refl _ | omega
  rintro _ _ _ ⟨rfl, rfl, rfl⟩
  repeat' (first | refine Both.mk ?_ ?_ | refine And.intro (by first | (show (_ : Bool) = true; kernel_rfl) | omega | (dsimp only; omega) | (simp only [ByteArray.size_append]; omega) | decide | (repeat' (first | refine And.intro ?_ ?_ | exact trivial | exact rfl))) ?_ | refine bcs_dec (fun h => ?_) (fun h => False.elim (by first | omega | exact h rfl)) | refine bcs_dec (fun h => False.elim (by omega)) (fun h => ?_) | refine bcs_dec (fun h => ?_) (fun h => ?_) | refine bcs_ndec (fun h => ?_) (fun h => ?_) | refine bcs_not ?_ | refine And.intro ?_ ?_)
  have hG := hG'
  have hx : ByteArray.mk #[60, 60, 60, 60, 60, 60, 60, 32] ++ bs (lab.getD (0 + Int.toNat 0) []) ++ ByteArray.mk #[10] ++ bs (addE false (segL m c.m (c.m + c.mn)).flatten) ++ ByteArray.mk #[61, 61, 61, 61, 61, 61, 61, 10] ++ bs (addE false (segL y c.y (c.y + c.yn)).flatten) ++ ByteArray.mk #[62, 62, 62, 62, 62, 62, 62, 32] ++ bs (lab.getD (0 + Int.toNat 2) []) ++ ByteArray.mk #[10] = bs (markP 60 (lab.getD 0 []) ++ (addE false (segL m c.m (c.m + c.mn)).flatten ++ (eqsP ++ (addE false (segL y c.y (c.y + c.yn)).flatten ++ markP 62 (lab.getD 2 []))))) := by
    show bs [60, 60, 60, 60, 60, 60, 60, 32] ++ bs (lab.getD 0 []) ++ bs [10] ++ bs (addE false (segL m c.m (c.m + c.mn)).flatten) ++ bs [61, 61, 61, 61, 61, 61, 61, 10] ++ bs (addE false (segL y c.y (c.y + c.yn)).flatten) ++ bs [62, 62, 62, 62, 62, 62, 62, 32] ++ bs (lab.getD 2 []) ++ bs [10] = _
    rw [bs_app, bs_app, bs_app, bs_app, bs_app, bs_app, bs_app, bs_app]
    congr 1
    unfold markP
    simp only [List.append_assoc]
  generalize hu : markP 60 (lab.getD 0 []) ++ (addE false (segL m c.m (c.m + c.mn)).flatten ++ (eqsP ++ (addE false (segL y c.y (c.y + c.yn)).flatten ++ markP 62 (lab.getD 2 [])))) = u at hT hx
  have hul : u.length ≤ 100000000 := by
    have a1 := hlab 0
    have a2 := hlab 1
    have a3 := hlab 2
    rw [← hu]
    unfold markP
    simp only [List.length_append, List.length_cons, List.length_nil]
    omega
  rw [hx]
  have hsz : (bs u).size = u.length := bs_size u
  cases last with
  | true =>
    repeat' (first | refine Both.mk ?_ ?_ | refine And.intro (by first | (show (_ : Bool) = true; kernel_rfl) | omega | (dsimp only; omega) | (simp only [ByteArray.size_append]; omega) | decide | (repeat' (first | refine And.intro ?_ ?_ | exact trivial | exact rfl))) ?_ | refine bcs_dec (fun h => ?_) (fun h => False.elim (by first | omega | exact h rfl)) | refine bcs_dec (fun h => False.elim (by omega)) (fun h => ?_) | refine bcs_dec (fun h => ?_) (fun h => ?_) | refine bcs_ndec (fun h => ?_) (fun h => ?_) | refine bcs_not ?_ | refine And.intro ?_ ?_)
    refine ret_plain ?_
    rw [hT]
    exact rfl
  | false =>
    repeat' (first | refine Both.mk ?_ ?_ | refine And.intro (by first | (show (_ : Bool) = true; kernel_rfl) | omega | (dsimp only; omega) | (simp only [ByteArray.size_append]; omega) | decide | (repeat' (first | refine And.intro ?_ ?_ | exact trivial | exact rfl))) ?_ | refine bcs_dec (fun h => ?_) (fun h => False.elim (by first | omega | exact h rfl)) | refine bcs_dec (fun h => False.elim (by omega)) (fun h => ?_) | refine bcs_dec (fun h => ?_) (fun h => ?_) | refine bcs_ndec (fun h => ?_) (fun h => ?_) | refine bcs_not ?_ | refine And.intro ?_ ?_)
    by_cases he : u = []
    · subst he
      refine bcs_t (by rw [eqE]; rfl) ?_
      repeat' (first | refine Both.mk ?_ ?_ | refine And.intro (by first | (show (_ : Bool) = true; kernel_rfl) | omega | (dsimp only; omega) | (simp only [ByteArray.size_append]; omega) | decide | (repeat' (first | refine And.intro ?_ ?_ | exact trivial | exact rfl))) ?_ | refine bcs_dec (fun h => ?_) (fun h => False.elim (by first | omega | exact h rfl)) | refine bcs_dec (fun h => False.elim (by omega)) (fun h => ?_) | refine bcs_dec (fun h => ?_) (fun h => ?_) | refine bcs_ndec (fun h => ?_) (fun h => ?_) | refine bcs_not ?_ | refine And.intro ?_ ?_)
      refine ret_plain ?_
      rw [hT]
      exact rfl
    · refine bcs_f (by rw [eqE]; simp [he]) ?_
      repeat' (first | refine Both.mk ?_ ?_ | refine And.intro (by first | (show (_ : Bool) = true; kernel_rfl) | omega | (dsimp only; omega) | (simp only [ByteArray.size_append]; omega) | decide | (repeat' (first | refine And.intro ?_ ?_ | exact trivial | exact rfl))) ?_ | refine bcs_dec (fun h => ?_) (fun h => False.elim (by first | omega | exact h rfl)) | refine bcs_dec (fun h => False.elim (by omega)) (fun h => ?_) | refine bcs_dec (fun h => ?_) (fun h => ?_) | refine bcs_ndec (fun h => ?_) (fun h => ?_) | refine bcs_not ?_ | refine And.intro ?_ ?_)
      have cW := rWhole_con u (by omega)
      cases hw : wholeF u with
      | true =>
        rw [hw] at cW
        refine call_rule [] (cW) hG ?_ ?_
        · (refine ⟨?_, ?_, rfl, rfl, rfl⟩ <;> repeat' (first | refine And.intro ?_ ?_ | exact trivial | exact rfl | refine lt0 | refine lt1 ?_ | refine lt2 ?_ ?_ | refine lt3 ?_ ?_ ?_ | refine lt4 ?_ ?_ ?_ ?_ | exact veq_refl _ | decide | (intro i hi; repeat' (first | refine And.intro ?_ ?_ | exact trivial | exact rfl))))
          all_goals first | exact Nat.le_refl _ | omega
        rintro _ _ _ ⟨rfl, rfl, rfl⟩
        repeat' (first | refine Both.mk ?_ ?_ | refine And.intro (by first | (show (_ : Bool) = true; kernel_rfl) | omega | (dsimp only; omega) | (simp only [ByteArray.size_append]; omega) | decide | (repeat' (first | refine And.intro ?_ ?_ | exact trivial | exact rfl))) ?_ | refine bcs_dec (fun h => ?_) (fun h => False.elim (by first | omega | exact h rfl)) | refine bcs_dec (fun h => False.elim (by omega)) (fun h => ?_) | refine bcs_dec (fun h => ?_) (fun h => ?_) | refine bcs_ndec (fun h => ?_) (fun h => ?_) | refine bcs_not ?_ | refine And.intro ?_ ?_)
        refine ret_plain ?_
        rw [hT, show addE false u = u by unfold addE; simp [hw]]
        exact rfl
      | false =>
        rw [hw] at cW
        refine call_rule [] (cW) hG ?_ ?_
        · (refine ⟨?_, ?_, rfl, rfl, rfl⟩ <;> repeat' (first | refine And.intro ?_ ?_ | exact trivial | exact rfl | refine lt0 | refine lt1 ?_ | refine lt2 ?_ ?_ | refine lt3 ?_ ?_ ?_ | refine lt4 ?_ ?_ ?_ ?_ | exact veq_refl _ | decide | (intro i hi; repeat' (first | refine And.intro ?_ ?_ | exact trivial | exact rfl))))
          all_goals first | exact Nat.le_refl _ | omega
        rintro _ _ _ ⟨rfl, rfl, rfl⟩
        repeat' (first | refine Both.mk ?_ ?_ | refine And.intro (by first | (show (_ : Bool) = true; kernel_rfl) | omega | (dsimp only; omega) | (simp only [ByteArray.size_append]; omega) | decide | (repeat' (first | refine And.intro ?_ ?_ | exact trivial | exact rfl))) ?_ | refine bcs_dec (fun h => ?_) (fun h => False.elim (by first | omega | exact h rfl)) | refine bcs_dec (fun h => False.elim (by omega)) (fun h => ?_) | refine bcs_dec (fun h => ?_) (fun h => ?_) | refine bcs_ndec (fun h => ?_) (fun h => ?_) | refine bcs_not ?_ | refine And.intro ?_ ?_)
        refine ret_plain ?_
        rw [hT, show addE false u = u ++ [10] by unfold addE; simp [hw, he]]
        exact veq_of_eq (congrArg Value.string (bs_app u [10]).symm)
end Go.Proofs.YtlmjkphiicmclaaDoor

namespace Go.Proofs.YtlmjkphiicmclaaDoor
open Go Go.RowKit Vc

set_option maxRecDepth 100000 in
set_option maxHeartbeats 64000000 in
theorem toldC2_con (b m y lab : List Byt) (fmt : Int) (c : Chk) (last : Bool) (H : ToldOk b m y lab fmt c) (hc : c.k = 5 ∧ fmt = 2) :
    Con Tryd.prog glob 35 [ckV c, .s 0 0 b.length, .s 1 0 m.length, .s 2 0 y.length, .s 3 0 lab.length, .v (.int .i64 fmt), .v (.bool last)] [(0, stRo b), (1, stRo m), (2, stRo y), (3, stRo lab)] 4 (retV 4 (str (toldF b m y lab fmt c last))) := by
  obtain ⟨hb, hm, hy, hlab, hbl, hml, hyl, hl3, hf1, hf2, hb1, hb2, hb3, hm1, hm2, hm3, hy1, hy2, hy3⟩ := H
  have s1 := seg_len m (show 0 ≤ c.m by omega) (show c.m ≤ c.m + c.mn by omega) (by omega)
  have s2 := seg_len y (show 0 ≤ c.y by omega) (show c.y ≤ c.y + c.yn by omega) (by omega)
  have s3 := seg_len b (show 0 ≤ c.b by omega) (show c.b ≤ c.b + c.bn by omega) (by omega)
  have t1 := seg_flat m c.m (c.m + c.mn)
  have t2 := seg_flat y c.y (c.y + c.yn)
  have t3 := seg_flat b c.b (c.b + c.bn)
  have u1 := addE_len (segL m c.m (c.m + c.mn)).flatten false
  have u2 := addE_len (segL y c.y (c.y + c.yn)).flatten false
  have u3 := addE_len (segL b c.b (c.b + c.bn)).flatten false
  obtain ⟨T, hT⟩ : ∃ T, T = toldF b m y lab fmt c last := ⟨_, rfl⟩
  rw [← hT]
  unfold toldF at hT
  have y0 : (bs (lab.getD (0 + Int.toNat 0) [])).size ≤ 4096 := by rw [bs_size]; exact hlab _
  have y1 : (bs (lab.getD (0 + Int.toNat 1) [])).size ≤ 4096 := by rw [bs_size]; exact hlab _
  have y2 : (bs (lab.getD (0 + Int.toNat 2) [])).size ≤ 4096 := by rw [bs_size]; exact hlab _
  have z1 := bs_size (addE false (segL m c.m (c.m + c.mn)).flatten)
  have z2 := bs_size (addE false (segL y c.y (c.y + c.yn)).flatten)
  have z3 := bs_size (addE false (segL b c.b (c.b + c.bn)).flatten)
  have z4 := bs_size (segL y c.y (c.y + c.yn)).flatten
  rw [told_C2 hc] at hT
  have h10 : (ByteArray.mk #[10]).size = 1 := rfl
  have h60 : (ByteArray.mk #[60, 60, 60, 60, 60, 60, 60, 32]).size = 8 := rfl
  have h124 : (ByteArray.mk #[124, 124, 124, 124, 124, 124, 124, 32]).size = 8 := rfl
  have h62 : (ByteArray.mk #[62, 62, 62, 62, 62, 62, 62, 32]).size = 8 := rfl
  have h61 : (ByteArray.mk #[61, 61, 61, 61, 61, 61, 61, 10]).size = 8 := rfl
  refine spec_intro (tab := tab) (N := 127) Tryd.func35 rfl rfl tab_ok mix rfl rfl _ rfl ?_
  intro B hG
  repeat' (first | refine Both.mk ?_ ?_ | refine And.intro (by first | (show (_ : Bool) = true; kernel_rfl) | omega | (dsimp only; omega) | (simp only [ByteArray.size_append]; omega) | decide | (repeat' (first | refine And.intro ?_ ?_ | exact trivial | exact rfl))) ?_ | refine bcs_dec (fun h => ?_) (fun h => False.elim (by first | omega | exact h rfl)) | refine bcs_dec (fun h => False.elim (by omega)) (fun h => ?_) | refine bcs_dec (fun h => ?_) (fun h => ?_) | refine bcs_ndec (fun h => ?_) (fun h => ?_) | refine bcs_not ?_ | refine And.intro ?_ ?_)
  refine call_rule [.at 1 (c.m).toNat] ((rJoin_con (segL m c.m (c.m + c.mn)) (fun k => m.getD (k + (c.m).toNat) []) (by omega) (by omega) (seg_row m (by omega) (by omega) (by omega)))) hG ?_ ?_
  · (refine ⟨?_, ?_, rfl, rfl, rfl⟩ <;> repeat' (first | refine And.intro ?_ ?_ | exact trivial | exact rfl | refine lt0 | refine lt1 ?_ | refine lt2 ?_ ?_ | refine lt3 ?_ ?_ ?_ | refine lt4 ?_ ?_ ?_ ?_ | exact veq_refl _ | decide | (intro i hi; repeat' (first | refine And.intro ?_ ?_ | exact trivial | exact rfl))))
    all_goals first | exact Nat.le_refl _ | omega
  rintro _ _ _ ⟨rfl, rfl, rfl⟩
  repeat' (first | refine Both.mk ?_ ?_ | refine And.intro (by first | (show (_ : Bool) = true; kernel_rfl) | omega | (dsimp only; omega) | (simp only [ByteArray.size_append]; omega) | decide | (repeat' (first | refine And.intro ?_ ?_ | exact trivial | exact rfl))) ?_ | refine bcs_dec (fun h => ?_) (fun h => False.elim (by first | omega | exact h rfl)) | refine bcs_dec (fun h => False.elim (by omega)) (fun h => ?_) | refine bcs_dec (fun h => ?_) (fun h => ?_) | refine bcs_ndec (fun h => ?_) (fun h => ?_) | refine bcs_not ?_ | refine And.intro ?_ ?_)
  refine reg_ord [4] (.early 0 (.early 1 (.early 2 (.early 3 (.early 4 (.late 5 (.late 6 (.late 7 (.late 8 .nil))))))))) (by decide +kernel) rfl ?_
  intro B' hB'
  have hG' := hG
  have hG := hB'.trans hG
  repeat' (first | refine Both.mk ?_ ?_ | refine And.intro (by first | (show (_ : Bool) = true; kernel_rfl) | omega | (dsimp only; omega) | (simp only [ByteArray.size_append]; omega) | decide | (repeat' (first | refine And.intro ?_ ?_ | exact trivial | exact rfl))) ?_ | refine bcs_dec (fun h => ?_) (fun h => False.elim (by first | omega | exact h rfl)) | refine bcs_dec (fun h => False.elim (by omega)) (fun h => ?_) | refine bcs_dec (fun h => ?_) (fun h => ?_) | refine bcs_ndec (fun h => ?_) (fun h => ?_) | refine bcs_not ?_ | refine And.intro ?_ ?_)
  refine call_rule [.at 1 (c.m).toNat] ((ended_con (segL m c.m (c.m + c.mn)) (fun k => m.getD (k + (c.m).toNat) []) (by omega) (by omega) (seg_row m (by omega) (by omega) (by omega)))) hG ?_ ?_
  · (refine ⟨?_, ?_, rfl, rfl, rfl⟩ <;> repeat' (first | refine And.intro ?_ ?_ | exact trivial | exact rfl | refine lt0 | refine lt1 ?_ | refine lt2 ?_ ?_ | refine lt3 ?_ ?_ ?_ | refine lt4 ?_ ?_ ?_ ?_ | exact veq_refl _ | decide | (intro i hi; repeat' (first | refine And.intro ?_ ?_ | exact trivial | exact rfl))))
    all_goals first | exact Nat.le_refl _ | omega
  rintro _ _ _ ⟨rfl, rfl, rfl⟩
  repeat' (first | refine Both.mk ?_ ?_ | refine And.intro (by first | (show (_ : Bool) = true; kernel_rfl) | omega | (dsimp only; omega) | (simp only [ByteArray.size_append]; omega) | decide | (repeat' (first | refine And.intro ?_ ?_ | exact trivial | exact rfl))) ?_ | refine bcs_dec (fun h => ?_) (fun h => False.elim (by first | omega | exact h rfl)) | refine bcs_dec (fun h => False.elim (by omega)) (fun h => ?_) | refine bcs_dec (fun h => ?_) (fun h => ?_) | refine bcs_ndec (fun h => ?_) (fun h => ?_) | refine bcs_not ?_ | refine And.intro ?_ ?_)
  have hG := hG'
  repeat' (first | refine Both.mk ?_ ?_ | refine And.intro (by first | (show (_ : Bool) = true; kernel_rfl) | omega | (dsimp only; omega) | (simp only [ByteArray.size_append]; omega) | decide | (repeat' (first | refine And.intro ?_ ?_ | exact trivial | exact rfl))) ?_ | refine bcs_dec (fun h => ?_) (fun h => False.elim (by first | omega | exact h rfl)) | refine bcs_dec (fun h => False.elim (by omega)) (fun h => ?_) | refine bcs_dec (fun h => ?_) (fun h => ?_) | refine bcs_ndec (fun h => ?_) (fun h => ?_) | refine bcs_not ?_ | refine And.intro ?_ ?_)
  refine reg_ord [4] (.early 0 (.early 1 (.early 2 (.early 3 (.early 4 (.early 5 (.early 6 (.early 7 (.early 8 (.early 9 (.early 10 (.early 11 (.late 12 (.late 13 (.late 14 (.late 15 (.late 16 (.late 17 (.late 18 .nil))))))))))))))))))) (by decide +kernel) rfl ?_
  intro B' hB'
  have hG' := hG
  have hG := hB'.trans hG
  repeat' (first | refine Both.mk ?_ ?_ | refine And.intro (by first | (show (_ : Bool) = true; kernel_rfl) | omega | (dsimp only; omega) | (simp only [ByteArray.size_append]; omega) | decide | (repeat' (first | refine And.intro ?_ ?_ | exact trivial | exact rfl))) ?_ | refine bcs_dec (fun h => ?_) (fun h => False.elim (by first | omega | exact h rfl)) | refine bcs_dec (fun h => False.elim (by omega)) (fun h => ?_) | refine bcs_dec (fun h => ?_) (fun h => ?_) | refine bcs_ndec (fun h => ?_) (fun h => ?_) | refine bcs_not ?_ | refine And.intro ?_ ?_)
  refine call_rule [.at 0 (c.b).toNat] ((ended_con (segL b c.b (c.b + c.bn)) (fun k => b.getD (k + (c.b).toNat) []) (by omega) (by omega) (seg_row b (by omega) (by omega) (by omega)))) hG ?_ ?_
  · (refine ⟨?_, ?_, rfl, rfl, rfl⟩ <;> repeat' (first | refine And.intro ?_ ?_ | exact trivial | exact rfl | refine lt0 | refine lt1 ?_ | refine lt2 ?_ ?_ | refine lt3 ?_ ?_ ?_ | refine lt4 ?_ ?_ ?_ ?_ | exact veq_refl _ | decide | (intro i hi; repeat' (first | refine And.intro ?_ ?_ | exact trivial | exact rfl))))
    all_goals first | exact Nat.le_refl _ | omega
  rintro _ _ _ ⟨rfl, rfl, rfl⟩
  repeat' (first | refine Both.mk ?_ ?_ | refine And.intro (by first | (show (_ : Bool) = true; kernel_rfl) | omega | (dsimp only; omega) | (simp only [ByteArray.size_append]; omega) | decide | (repeat' (first | refine And.intro ?_ ?_ | exact trivial | exact rfl))) ?_ | refine bcs_dec (fun h => ?_) (fun h => False.elim (by first | omega | exact h rfl)) | refine bcs_dec (fun h => False.elim (by omega)) (fun h => ?_) | refine bcs_dec (fun h => ?_) (fun h => ?_) | refine bcs_ndec (fun h => ?_) (fun h => ?_) | refine bcs_not ?_ | refine And.intro ?_ ?_)
  have hG := hG'
  repeat' (first | refine Both.mk ?_ ?_ | refine And.intro (by first | (show (_ : Bool) = true; kernel_rfl) | omega | (dsimp only; omega) | (simp only [ByteArray.size_append]; omega) | decide | (repeat' (first | refine And.intro ?_ ?_ | exact trivial | exact rfl))) ?_ | refine bcs_dec (fun h => ?_) (fun h => False.elim (by first | omega | exact h rfl)) | refine bcs_dec (fun h => False.elim (by omega)) (fun h => ?_) | refine bcs_dec (fun h => ?_) (fun h => ?_) | refine bcs_ndec (fun h => ?_) (fun h => ?_) | refine bcs_not ?_ | refine And.intro ?_ ?_)
  refine reg_ord [4] (.early 0 (.early 1 (.early 2 (.early 6 (.early 7 (.early 8 (.late 3 (.late 4 (.late 5 (.late 9 (.late 10 (.late 11 .nil)))))))))))) (by decide +kernel) rfl ?_
  intro B' hB'
  have hG' := hG
  have hG := hB'.trans hG
  repeat' (first | refine Both.mk ?_ ?_ | refine And.intro (by first | (show (_ : Bool) = true; kernel_rfl) | omega | (dsimp only; omega) | (simp only [ByteArray.size_append]; omega) | decide | (repeat' (first | refine And.intro ?_ ?_ | exact trivial | exact rfl))) ?_ | refine bcs_dec (fun h => ?_) (fun h => False.elim (by first | omega | exact h rfl)) | refine bcs_dec (fun h => False.elim (by omega)) (fun h => ?_) | refine bcs_dec (fun h => ?_) (fun h => ?_) | refine bcs_ndec (fun h => ?_) (fun h => ?_) | refine bcs_not ?_ | refine And.intro ?_ ?_)
  refine call_rule [.at 2 (c.y).toNat] ((ended_con (segL y c.y (c.y + c.yn)) (fun k => y.getD (k + (c.y).toNat) []) (by omega) (by omega) (seg_row y (by omega) (by omega) (by omega)))) hG ?_ ?_
  · (refine ⟨?_, ?_, rfl, rfl, rfl⟩ <;> repeat' (first | refine And.intro ?_ ?_ | exact trivial | exact rfl | refine lt0 | refine lt1 ?_ | refine lt2 ?_ ?_ | refine lt3 ?_ ?_ ?_ | refine lt4 ?_ ?_ ?_ ?_ | exact veq_refl _ | decide | (intro i hi; repeat' (first | refine And.intro ?_ ?_ | exact trivial | exact rfl))))
    all_goals first | exact Nat.le_refl _ | omega
  rintro _ _ _ ⟨rfl, rfl, rfl⟩
  repeat' (first | refine Both.mk ?_ ?_ | refine And.intro (by first | (show (_ : Bool) = true; kernel_rfl) | omega | (dsimp only; omega) | (simp only [ByteArray.size_append]; omega) | decide | (repeat' (first | refine And.intro ?_ ?_ | exact trivial | exact rfl))) ?_ | refine bcs_dec (fun h => ?_) (fun h => False.elim (by first | omega | exact h rfl)) | refine bcs_dec (fun h => False.elim (by omega)) (fun h => ?_) | refine bcs_dec (fun h => ?_) (fun h => ?_) | refine bcs_ndec (fun h => ?_) (fun h => ?_) | refine bcs_not ?_ | refine And.intro ?_ ?_)
  have hG := hG'
  have hx : ByteArray.mk #[60, 60, 60, 60, 60, 60, 60, 32] ++ bs (lab.getD (0 + Int.toNat 0) []) ++ ByteArray.mk #[10] ++ bs (addE false (segL m c.m (c.m + c.mn)).flatten) ++ ByteArray.mk #[124, 124, 124, 124, 124, 124, 124, 32] ++ bs (lab.getD (0 + Int.toNat 1) []) ++ ByteArray.mk #[10] ++ bs (addE false (segL b c.b (c.b + c.bn)).flatten) ++ ByteArray.mk #[61, 61, 61, 61, 61, 61, 61, 10] ++ bs (addE false (segL y c.y (c.y + c.yn)).flatten) ++ ByteArray.mk #[62, 62, 62, 62, 62, 62, 62, 32] ++ bs (lab.getD (0 + Int.toNat 2) []) ++ ByteArray.mk #[10] = bs (markP 60 (lab.getD 0 []) ++ (addE false (segL m c.m (c.m + c.mn)).flatten ++ ((markP 124 (lab.getD 1 []) ++ addE false (segL b c.b (c.b + c.bn)).flatten) ++ (eqsP ++ (addE false (segL y c.y (c.y + c.yn)).flatten ++ markP 62 (lab.getD 2 [])))))) := by
    show bs [60, 60, 60, 60, 60, 60, 60, 32] ++ bs (lab.getD 0 []) ++ bs [10] ++ bs (addE false (segL m c.m (c.m + c.mn)).flatten) ++ bs [124, 124, 124, 124, 124, 124, 124, 32] ++ bs (lab.getD 1 []) ++ bs [10] ++ bs (addE false (segL b c.b (c.b + c.bn)).flatten) ++ bs [61, 61, 61, 61, 61, 61, 61, 10] ++ bs (addE false (segL y c.y (c.y + c.yn)).flatten) ++ bs [62, 62, 62, 62, 62, 62, 62, 32] ++ bs (lab.getD 2 []) ++ bs [10] = _
    rw [bs_app, bs_app, bs_app, bs_app, bs_app, bs_app, bs_app, bs_app, bs_app, bs_app, bs_app, bs_app]
    congr 1
    unfold markP
    simp only [List.append_assoc]
  generalize hu : markP 60 (lab.getD 0 []) ++ (addE false (segL m c.m (c.m + c.mn)).flatten ++ ((markP 124 (lab.getD 1 []) ++ addE false (segL b c.b (c.b + c.bn)).flatten) ++ (eqsP ++ (addE false (segL y c.y (c.y + c.yn)).flatten ++ markP 62 (lab.getD 2 []))))) = u at hT hx
  have hul : u.length ≤ 100000000 := by
    have a1 := hlab 0
    have a2 := hlab 1
    have a3 := hlab 2
    rw [← hu]
    unfold markP
    simp only [List.length_append, List.length_cons, List.length_nil]
    omega
  rw [hx]
  have hsz : (bs u).size = u.length := bs_size u
  cases last with
  | true =>
    repeat' (first | refine Both.mk ?_ ?_ | refine And.intro (by first | (show (_ : Bool) = true; kernel_rfl) | omega | (dsimp only; omega) | (simp only [ByteArray.size_append]; omega) | decide | (repeat' (first | refine And.intro ?_ ?_ | exact trivial | exact rfl))) ?_ | refine bcs_dec (fun h => ?_) (fun h => False.elim (by first | omega | exact h rfl)) | refine bcs_dec (fun h => False.elim (by omega)) (fun h => ?_) | refine bcs_dec (fun h => ?_) (fun h => ?_) | refine bcs_ndec (fun h => ?_) (fun h => ?_) | refine bcs_not ?_ | refine And.intro ?_ ?_)
    refine ret_plain ?_
    rw [hT]
    exact rfl
  | false =>
    repeat' (first | refine Both.mk ?_ ?_ | refine And.intro (by first | (show (_ : Bool) = true; kernel_rfl) | omega | (dsimp only; omega) | (simp only [ByteArray.size_append]; omega) | decide | (repeat' (first | refine And.intro ?_ ?_ | exact trivial | exact rfl))) ?_ | refine bcs_dec (fun h => ?_) (fun h => False.elim (by first | omega | exact h rfl)) | refine bcs_dec (fun h => False.elim (by omega)) (fun h => ?_) | refine bcs_dec (fun h => ?_) (fun h => ?_) | refine bcs_ndec (fun h => ?_) (fun h => ?_) | refine bcs_not ?_ | refine And.intro ?_ ?_)
    by_cases he : u = []
    · subst he
      refine bcs_t (by rw [eqE]; rfl) ?_
      repeat' (first | refine Both.mk ?_ ?_ | refine And.intro (by first | (show (_ : Bool) = true; kernel_rfl) | omega | (dsimp only; omega) | (simp only [ByteArray.size_append]; omega) | decide | (repeat' (first | refine And.intro ?_ ?_ | exact trivial | exact rfl))) ?_ | refine bcs_dec (fun h => ?_) (fun h => False.elim (by first | omega | exact h rfl)) | refine bcs_dec (fun h => False.elim (by omega)) (fun h => ?_) | refine bcs_dec (fun h => ?_) (fun h => ?_) | refine bcs_ndec (fun h => ?_) (fun h => ?_) | refine bcs_not ?_ | refine And.intro ?_ ?_)
      refine ret_plain ?_
      rw [hT]
      exact rfl
    · refine bcs_f (by rw [eqE]; simp [he]) ?_
      repeat' (first | refine Both.mk ?_ ?_ | refine And.intro (by first | (show (_ : Bool) = true; kernel_rfl) | omega | (dsimp only; omega) | (simp only [ByteArray.size_append]; omega) | decide | (repeat' (first | refine And.intro ?_ ?_ | exact trivial | exact rfl))) ?_ | refine bcs_dec (fun h => ?_) (fun h => False.elim (by first | omega | exact h rfl)) | refine bcs_dec (fun h => False.elim (by omega)) (fun h => ?_) | refine bcs_dec (fun h => ?_) (fun h => ?_) | refine bcs_ndec (fun h => ?_) (fun h => ?_) | refine bcs_not ?_ | refine And.intro ?_ ?_)
      have cW := rWhole_con u (by omega)
      cases hw : wholeF u with
      | true =>
        rw [hw] at cW
        refine call_rule [] (cW) hG ?_ ?_
        · (refine ⟨?_, ?_, rfl, rfl, rfl⟩ <;> repeat' (first | refine And.intro ?_ ?_ | exact trivial | exact rfl | refine lt0 | refine lt1 ?_ | refine lt2 ?_ ?_ | refine lt3 ?_ ?_ ?_ | refine lt4 ?_ ?_ ?_ ?_ | exact veq_refl _ | decide | (intro i hi; repeat' (first | refine And.intro ?_ ?_ | exact trivial | exact rfl))))
          all_goals first | exact Nat.le_refl _ | omega
        rintro _ _ _ ⟨rfl, rfl, rfl⟩
        repeat' (first | refine Both.mk ?_ ?_ | refine And.intro (by first | (show (_ : Bool) = true; kernel_rfl) | omega | (dsimp only; omega) | (simp only [ByteArray.size_append]; omega) | decide | (repeat' (first | refine And.intro ?_ ?_ | exact trivial | exact rfl))) ?_ | refine bcs_dec (fun h => ?_) (fun h => False.elim (by first | omega | exact h rfl)) | refine bcs_dec (fun h => False.elim (by omega)) (fun h => ?_) | refine bcs_dec (fun h => ?_) (fun h => ?_) | refine bcs_ndec (fun h => ?_) (fun h => ?_) | refine bcs_not ?_ | refine And.intro ?_ ?_)
        refine ret_plain ?_
        rw [hT, show addE false u = u by unfold addE; simp [hw]]
        exact rfl
      | false =>
        rw [hw] at cW
        refine call_rule [] (cW) hG ?_ ?_
        · (refine ⟨?_, ?_, rfl, rfl, rfl⟩ <;> repeat' (first | refine And.intro ?_ ?_ | exact trivial | exact rfl | refine lt0 | refine lt1 ?_ | refine lt2 ?_ ?_ | refine lt3 ?_ ?_ ?_ | refine lt4 ?_ ?_ ?_ ?_ | exact veq_refl _ | decide | (intro i hi; repeat' (first | refine And.intro ?_ ?_ | exact trivial | exact rfl))))
          all_goals first | exact Nat.le_refl _ | omega
        rintro _ _ _ ⟨rfl, rfl, rfl⟩
        repeat' (first | refine Both.mk ?_ ?_ | refine And.intro (by first | (show (_ : Bool) = true; kernel_rfl) | omega | (dsimp only; omega) | (simp only [ByteArray.size_append]; omega) | decide | (repeat' (first | refine And.intro ?_ ?_ | exact trivial | exact rfl))) ?_ | refine bcs_dec (fun h => ?_) (fun h => False.elim (by first | omega | exact h rfl)) | refine bcs_dec (fun h => False.elim (by omega)) (fun h => ?_) | refine bcs_dec (fun h => ?_) (fun h => ?_) | refine bcs_ndec (fun h => ?_) (fun h => ?_) | refine bcs_not ?_ | refine And.intro ?_ ?_)
        refine ret_plain ?_
        rw [hT, show addE false u = u ++ [10] by unfold addE; simp [hw, he]]
        exact veq_of_eq (congrArg Value.string (bs_app u [10]).symm)
end Go.Proofs.YtlmjkphiicmclaaDoor

namespace Go.Proofs.YtlmjkphiicmclaaDoor
open Go Go.RowKit Vc

theorem told_con (b m y lab : List Byt) (fmt : Int) (c : Chk) (last : Bool) (H : ToldOk b m y lab fmt c) :
    Con Tryd.prog glob 35 [ckV c, .s 0 0 b.length, .s 1 0 m.length, .s 2 0 y.length, .s 3 0 lab.length, .v (.int .i64 fmt), .v (.bool last)] [(0, stRo b), (1, stRo m), (2, stRo y), (3, stRo lab)] 4 (retV 4 (str (toldF b m y lab fmt c last))) := by
  by_cases h3 : c.k = 3
  · exact toldA1_con b m y lab fmt c last H h3
  by_cases h5 : c.k = 5
  · have h1 := H.hf1
    have h2 := H.hf2
    obtain rfl | rfl | rfl | rfl | rfl : fmt = 1 ∨ fmt = 2 ∨ fmt = 3 ∨ fmt = 4 ∨ fmt = 5 := by omega
    · exact toldC1_con b m y lab 1 c last H ⟨h5, rfl⟩
    · exact toldC2_con b m y lab 2 c last H ⟨h5, rfl⟩
    · exact toldB_con b m y lab 3 c last H ⟨h5, rfl⟩
    · exact toldD1_con b m y lab 4 c last H ⟨h5, rfl⟩
    · exact toldA2_con b m y lab 5 c last H ⟨h5, rfl⟩
  · exact toldD2_con b m y lab fmt c last H ⟨h3, h5⟩
theorem toldF_len {b m y lab : List Byt} {fmt : Int} {c : Chk} (hb : b.flatten.length ≤ 1048576) (hm : m.flatten.length ≤ 1048576) (hy : y.flatten.length ≤ 1048576) (hl : ∀ i, (lab.getD i []).length ≤ 4096) (last : Bool) : (toldF b m y lab fmt c last).length ≤ 4000000 := by
  have t1 := seg_flat m c.m (c.m + c.mn)
  have t2 := seg_flat y c.y (c.y + c.yn)
  have t3 := seg_flat b c.b (c.b + c.bn)
  have u1 := addE_len (segL m c.m (c.m + c.mn)).flatten false
  have u2 := addE_len (segL y c.y (c.y + c.yn)).flatten false
  have u3 := addE_len (segL b c.b (c.b + c.bn)).flatten false
  have a1 := mk_len 60 (hl 0)
  have a2 := mk_len 124 (hl 1)
  have a3 := mk_len 62 (hl 2)
  have h := addE_len (toldT b m y lab fmt c) last
  have g : (toldT b m y lab fmt c).length ≤ 3900000 := by
    unfold toldT
    split
    · omega
    · split
      · rw [List.length_append]; omega
      · split
        · simp only [List.length_append]
          split
          · simp only [List.length_append, List.length_cons, List.length_nil]; omega
          · simp only [List.length_cons, List.length_nil]; omega
        · omega
  unfold toldF
  omega
end Go.Proofs.YtlmjkphiicmclaaDoor
