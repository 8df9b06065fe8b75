/- Chapter 15: the library's builder at the head of a page: its methods as contracts. -/
import Derived.Test.YtjlobgcmhnkgnaaDoorBld
import Derived.Test.YtjlobgcmhnkgnaaDoorVc28
namespace Go.Proofs.YtjlobgcmhnkgnaaDoor
open Go Go.RowKit Vc

set_option maxHeartbeats 1000000 in
set_option maxRecDepth 100000 in
theorem cc_freshP (w : World) (b : Nat) (u h s : Value) (hb : w.heap[b]? = some (.cells #[.pointer none, u, h, s] 74 (0, 0))) :
    Calls Tryd.prog 48 #[.pointer (some ⟨b, 0, none⟩)] w fun e w' => e = .returned (.tuple #[]) ∧ w' = w.setCell ⟨b, 0, none⟩ (.pointer (some ⟨b, 0, none⟩)) := by
  have h0 : w.cell? ⟨b, 0, none⟩ = some (.pointer none) := by rw [Lib.cell_of_heap hb]; rfl
  have hsh : w.shape? b = some (74, 4) := by simp [World.shape?, hb]
  have hfz : w.frozen? ⟨b, 0, none⟩ = false := Lib.frozen_of_heap hb 0
  obtain ⟨j, hj, hjs⟩ : ∃ j, Tryd.prog.info? 57 = some j ∧ j.size = 2 := ⟨Tryd.t57, by kernel_rfl, rfl⟩
  have hl : liesAt Tryd.prog Tryd.prog.depth 74 (4 / Tryd.prog.cellsOf 74) 0 57 1 = true := by kernel_rfl
  go_enter Tryd.func48, Tryd.ntmps48
  go_wp2
  rw [Lib.run_to_unsafe w ⟨b, 0, none⟩ Tryd.underlying54 Tryd.underlying85 hj (by rw [hjs]; decide) hsh (by show 0 < 4; decide)]
  simp only [Result.andThen]
  rw [Oper.upon_value]
  go_wp2
  rw [run_callFunc_extern Tryd.func63 (by kernel_rfl) (by kernel_rfl) (by kernel_rfl) (e := Extern.AbiNoEscape.same) (by kernel_rfl)]
  rw [Lib.run_noEscape]
  simp only [Result.andThen]
  rw [Oper.upon_value]
  go_wp2
  rw [Lib.run_from_unsafe w ⟨b, 0, none⟩ Tryd.underlying85 Tryd.underlying54 hj hsh hl]
  simp only [Result.andThen]
  rw [Oper.upon_value]
  go_wp2
  go_end0
  exact ⟨rfl, rfl⟩
set_option maxHeartbeats 1000000 in
set_option maxRecDepth 100000 in
theorem cc_usedP (w : World) (b : Nat) (u h s : Value) (hb : w.heap[b]? = some (.cells #[.pointer (some ⟨b, 0, none⟩), u, h, s] 74 (0, 0))) :
    Calls Tryd.prog 48 #[.pointer (some ⟨b, 0, none⟩)] w fun e w' => e = .returned (.tuple #[]) ∧ w' = w := by
  have h0 : w.cell? ⟨b, 0, none⟩ = some (.pointer (some ⟨b, 0, none⟩)) := by rw [Lib.cell_of_heap hb]; rfl
  obtain ⟨j, hj, _⟩ : ∃ j, Tryd.prog.info? 57 = some j ∧ j.size = 2 := ⟨Tryd.t57, by kernel_rfl, rfl⟩
  go_enter Tryd.func48, Tryd.ntmps48
  go_wp2
  rw [Lib.run_neq_ptr_same w _ Tryd.underlying54 hj]
  go_wp2
  go_end0
  exact ⟨rfl, rfl⟩
theorem ccPF (x h s : SV) (m : Mem) (nx : Nat) : Con Tryd.prog glob 48 [.p 0 0 0] ((0, .box 74 [.v (.pointer none), x, h, s]) :: m) nx (retM (.t []) ((0, .box 74 [.p 0 0 0, x, h, s]) :: m) nx) :=
  con_pokeT ⟨_, Tryd.func48, rfl, rfl⟩ fun w b u us hl hb => by
    match us, hl with
    | [p, q], _ => exact cc_freshP w b u p q hb
theorem ccPU (x h s : SV) (m : Mem) (nx : Nat) : Con Tryd.prog glob 48 [.p 0 0 0] ((0, .box 74 [.p 0 0 0, x, h, s]) :: m) nx (retM (.t []) ((0, .box 74 [.p 0 0 0, x, h, s]) :: m) nx) :=
  con_keepT ⟨_, Tryd.func48, rfl, rfl⟩ fun w b u us hl hb => by
    match us, hl with
    | [p, q], _ => exact cc_usedP w b u p q hb
/-- A page that has never been written; one that has (its row is chunk 1, or 2). -/
abbrev pgF (h s : Int) : Ch := .box 74 [.v (.pointer none), .v (.slice none 0 0), .v (.int .i64 h), .v (.int .i64 s)]
abbrev pgU (h s : Int) : Ch := .box 74 [.p 0 0 0, .o 1, .v (.int .i64 h), .v (.int .i64 s)]
abbrev pgV (h s : Int) : Ch := .box 74 [.p 0 0 0, .o 2, .v (.int .i64 h), .v (.int .i64 s)]
theorem strPF_con (h s : Int) : Con Tryd.prog glob 27 [.p 0 0 0] [(0, pgF h s)] 1 (retM (str []) [] 1) :=
  con_bstrFT ⟨_, Tryd.func27, rfl, rfl⟩ fun w b hc => bstr_atF Tryd.lays169 Tryd.Builder_Extra_169 b w hc
theorem strPU_con (h s : Int) (l : Byt) (hl : l ≠ []) : Con Tryd.prog glob 27 [.p 0 0 0] [(0, pgU h s), (1, byOwn l)] 2 (retM (str l) [] 2) :=
  con_bstrT ⟨_, Tryd.func27, rfl, rfl⟩ fun w b v h1 h2 => bstr_at Tryd.lays169 Tryd.Builder_Extra_169 b l w v h1 h2 hl
set_option maxRecDepth 100000 in
set_option maxHeartbeats 4000000 in
theorem wsPF_con (h s : Int) (x : Byt) (hx : x.length ≤ 140737488355328) : Con Tryd.prog glob 25 [.p 0 0 0, str x] [(0, pgF h s)] 1 (retM (.t [.v (.int .i64 x.length), .v .nilIface]) [(0, pgU h s), (1, byOwn x)] 2) := by
  have hb : (bs x).size = x.length := bs_size x
  refine spec_intro (tab := tab) (N := 19) Tryd.func25 rfl rfl tab_ok mix rfl rfl _ rfl ?_
  intro B hG
  repeat' (first | refine And.intro (by first | omega | (dsimp only; omega) | (show (_ : Bool) = true; kernel_rfl) | decide | (repeat' (first | refine And.intro ?_ ?_ | exact trivial | exact rfl))) ?_ | refine bcs_dec (fun h => ?_) (fun h => ?_) | refine bcs_ndec (fun h => ?_) (fun h => ?_) | refine bcs_not ?_ | refine bcs_intro (fun h => ?_) (fun h => ?_) | refine And.intro ?_ ?_ | refine reg_tail (by kernel_rfl) ?_)
  refine call_rule [.at 0 0] (ccPF (.v (.slice none 0 0)) (.v (.int .i64 h)) (.v (.int .i64 s)) [] 1) hG ?_ ?_
  · (refine ⟨?_, ?_, rfl, rfl, rfl⟩ <;> repeat' (first | refine And.intro ?_ ?_ | exact trivial | exact rfl | refine lt0 | refine lt1 ?_ | refine lt2 ?_ ?_ | refine lt3 ?_ ?_ ?_ | refine lt4 ?_ ?_ ?_ ?_ | exact veq_refl _ | decide | (intro i hi; repeat' (first | refine And.intro ?_ ?_ | exact trivial | exact rfl))))
    all_goals first | exact Nat.le_refl _ | omega
  rintro _ _ _ ⟨rfl, rfl, rfl⟩
  repeat' (first | refine And.intro (by first | omega | (dsimp only; omega) | (show (_ : Bool) = true; kernel_rfl) | decide | (repeat' (first | refine And.intro ?_ ?_ | exact trivial | exact rfl))) ?_ | refine bcs_dec (fun h => ?_) (fun h => ?_) | refine bcs_ndec (fun h => ?_) (fun h => ?_) | refine bcs_not ?_ | refine bcs_intro (fun h => ?_) (fun h => ?_) | refine And.intro ?_ ?_ | refine reg_tail (by kernel_rfl) ?_)
  refine ext_apps Tryd.underlying55 Tryd.underlying9 (te := Tryd.t5) (by kernel_rfl) rfl rfl rfl rfl ?_
  repeat' (first | refine And.intro (by first | omega | (dsimp only; omega) | (show (_ : Bool) = true; kernel_rfl) | decide | (repeat' (first | refine And.intro ?_ ?_ | exact trivial | exact rfl))) ?_ | refine bcs_dec (fun h => ?_) (fun h => ?_) | refine bcs_ndec (fun h => ?_) (fun h => ?_) | refine bcs_not ?_ | refine bcs_intro (fun h => ?_) (fun h => ?_) | refine And.intro ?_ ?_)
  refine appB0 ?_
  repeat' (first | refine And.intro (by first | omega | (dsimp only; omega) | (show (_ : Bool) = true; kernel_rfl) | decide | (repeat' (first | refine And.intro ?_ ?_ | exact trivial | exact rfl))) ?_ | refine bcs_dec (fun h => ?_) (fun h => ?_) | refine bcs_ndec (fun h => ?_) (fun h => ?_) | refine bcs_not ?_ | refine bcs_intro (fun h => ?_) (fun h => ?_) | refine And.intro ?_ ?_ | refine reg_tail (by kernel_rfl) ?_)
  refine ret_mem [.at 1 0] rfl rfl ?_ ?_
  · repeat' (first | refine And.intro ?_ ?_ | exact trivial)
    · exact veq_of_eq (congrArg (Value.int .i64) (by rw [hb]))
    all_goals exact rfl
  · repeat' (first | refine And.intro ?_ ?_ | exact trivial)
    all_goals try first | exact rfl | exact veq_refl _
    · show x.length = 0 + (bs x).size
      omega
    intro i hi
    repeat' (first | refine And.intro ?_ ?_ | exact trivial)
    all_goals exact rfl
set_option maxRecDepth 100000 in
set_option maxHeartbeats 4000000 in
theorem wsPU_con (h s : Int) (x l : Byt) (hx : l.length + x.length ≤ 140737488355328) : Con Tryd.prog glob 25 [.p 0 0 0, str x] [(0, pgU h s), (1, byOwn l)] 2 (retM (.t [.v (.int .i64 x.length), .v .nilIface]) [(0, pgV h s), (2, byOwn (l ++ x))] 3) := by
  have hb : (bs x).size = x.length := bs_size x
  refine spec_intro (tab := tab) (N := 19) Tryd.func25 rfl rfl tab_ok mix rfl rfl _ rfl ?_
  intro B hG
  repeat' (first | refine And.intro (by first | omega | (dsimp only; omega) | (show (_ : Bool) = true; kernel_rfl) | decide | (repeat' (first | refine And.intro ?_ ?_ | exact trivial | exact rfl))) ?_ | refine bcs_dec (fun h => ?_) (fun h => ?_) | refine bcs_ndec (fun h => ?_) (fun h => ?_) | refine bcs_not ?_ | refine bcs_intro (fun h => ?_) (fun h => ?_) | refine And.intro ?_ ?_ | refine reg_tail (by kernel_rfl) ?_)
  refine call_rule [.at 0 0, .at 1 0] (ccPU (.o 1) (.v (.int .i64 h)) (.v (.int .i64 s)) [(1, byOwn l)] 2) hG ?_ ?_
  · (refine ⟨?_, ?_, rfl, rfl, rfl⟩ <;> repeat' (first | refine And.intro ?_ ?_ | exact trivial | exact rfl | refine lt0 | refine lt1 ?_ | refine lt2 ?_ ?_ | refine lt3 ?_ ?_ ?_ | refine lt4 ?_ ?_ ?_ ?_ | exact veq_refl _ | decide | (intro i hi; repeat' (first | refine And.intro ?_ ?_ | exact trivial | exact rfl))))
    all_goals first | exact Nat.le_refl _ | omega
  rintro _ _ _ ⟨rfl, rfl, rfl⟩
  repeat' (first | refine And.intro (by first | omega | (dsimp only; omega) | (show (_ : Bool) = true; kernel_rfl) | decide | (repeat' (first | refine And.intro ?_ ?_ | exact trivial | exact rfl))) ?_ | refine bcs_dec (fun h => ?_) (fun h => ?_) | refine bcs_ndec (fun h => ?_) (fun h => ?_) | refine bcs_not ?_ | refine bcs_intro (fun h => ?_) (fun h => ?_) | refine And.intro ?_ ?_ | refine reg_tail (by kernel_rfl) ?_)
  refine ext_apps Tryd.underlying55 Tryd.underlying9 (te := Tryd.t5) (by kernel_rfl) rfl rfl rfl rfl ?_
  repeat' (first | refine And.intro (by first | omega | (dsimp only; omega) | (show (_ : Bool) = true; kernel_rfl) | decide | (repeat' (first | refine And.intro ?_ ?_ | exact trivial | exact rfl))) ?_ | refine bcs_dec (fun h => ?_) (fun h => ?_) | refine bcs_ndec (fun h => ?_) (fun h => ?_) | refine bcs_not ?_ | refine bcs_intro (fun h => ?_) (fun h => ?_) | refine And.intro ?_ ?_)
  refine appB rfl ?_
  repeat' (first | refine And.intro (by first | omega | (dsimp only; omega) | (show (_ : Bool) = true; kernel_rfl) | decide | (repeat' (first | refine And.intro ?_ ?_ | exact trivial | exact rfl))) ?_ | refine bcs_dec (fun h => ?_) (fun h => ?_) | refine bcs_ndec (fun h => ?_) (fun h => ?_) | refine bcs_not ?_ | refine bcs_intro (fun h => ?_) (fun h => ?_) | refine And.intro ?_ ?_ | refine reg_tail (by kernel_rfl) ?_)
  refine ret_mem [.at 2 0] rfl rfl ?_ ?_
  · repeat' (first | refine And.intro ?_ ?_ | exact trivial)
    · exact veq_of_eq (congrArg (Value.int .i64) (by rw [hb]))
    all_goals exact rfl
  · repeat' (first | refine And.intro ?_ ?_ | exact trivial)
    all_goals try first | exact rfl | exact veq_refl _
    · rw [List.length_append, bs_size]
    intro i hi
    repeat' (first | refine And.intro ?_ ?_ | exact trivial)
    all_goals exact rfl
end Go.Proofs.YtjlobgcmhnkgnaaDoor
