/- Chapter 18: the library's builder at the head of a writer: its methods as contracts. -/
import Derived.Test.YtlmjkphiicmclaaDoorBld
import Derived.Test.YtlmjkphiicmclaaDoorVc28
namespace Go.Proofs.YtlmjkphiicmclaaDoor
open Go Go.RowKit Vc

set_option maxHeartbeats 1000000 in
set_option maxRecDepth 100000 in
theorem cc_freshP (w : World) (b : Nat) (u h : Value) (hb : w.heap[b]? = some (.cells #[.pointer none, u, h] 111 (0, 0))) :
    Calls Tryd.prog 65 #[.pointer (some ⟨b, 0, none⟩)] w fun e w' => e = .returned (.tuple #[]) ∧ w' = w.setCell ⟨b, 0, none⟩ (.pointer (some ⟨b, 0, none⟩)) := by
  have h0 : w.cell? ⟨b, 0, none⟩ = some (.pointer none) := by rw [Lib.cell_of_heap hb]; rfl
  have hsh : w.shape? b = some (111, 3) := by simp [World.shape?, hb]
  have hfz : w.frozen? ⟨b, 0, none⟩ = false := Lib.frozen_of_heap hb 0
  obtain ⟨j, hj, hjs⟩ : ∃ j, Tryd.prog.info? 79 = some j ∧ j.size = 2 := ⟨Tryd.t79, by kernel_rfl, rfl⟩
  have hl : liesAt Tryd.prog Tryd.prog.depth 111 (3 / Tryd.prog.cellsOf 111) 0 79 1 = true := by kernel_rfl
  go_enter Tryd.func65, Tryd.ntmps65
  go_wp2
  rw [Lib.run_to_unsafe w ⟨b, 0, none⟩ Tryd.underlying77 Tryd.underlying94 hj (by rw [hjs]; decide) hsh (by show 0 < 3; decide)]
  simp only [Result.andThen]
  rw [Oper.upon_value]
  go_wp2
  rw [run_callFunc_extern Tryd.func79 (by kernel_rfl) (by kernel_rfl) (by kernel_rfl) (e := Extern.AbiNoEscape.same) (by kernel_rfl)]
  rw [Lib.run_noEscape]
  simp only [Result.andThen]
  rw [Oper.upon_value]
  go_wp2
  rw [Lib.run_from_unsafe w ⟨b, 0, none⟩ Tryd.underlying94 Tryd.underlying77 hj hsh hl]
  simp only [Result.andThen]
  rw [Oper.upon_value]
  go_wp2
  go_end0
  exact ⟨rfl, rfl⟩
set_option maxHeartbeats 1000000 in
set_option maxRecDepth 100000 in
theorem cc_usedP (w : World) (b : Nat) (u h : Value) (hb : w.heap[b]? = some (.cells #[.pointer (some ⟨b, 0, none⟩), u, h] 111 (0, 0))) :
    Calls Tryd.prog 65 #[.pointer (some ⟨b, 0, none⟩)] w fun e w' => e = .returned (.tuple #[]) ∧ w' = w := by
  have h0 : w.cell? ⟨b, 0, none⟩ = some (.pointer (some ⟨b, 0, none⟩)) := by rw [Lib.cell_of_heap hb]; rfl
  obtain ⟨j, hj, _⟩ : ∃ j, Tryd.prog.info? 79 = some j ∧ j.size = 2 := ⟨Tryd.t79, by kernel_rfl, rfl⟩
  go_enter Tryd.func65, Tryd.ntmps65
  go_wp2
  rw [Lib.run_neq_ptr_same w _ Tryd.underlying77 hj]
  go_wp2
  go_end0
  exact ⟨rfl, rfl⟩
theorem ccPF (x h : SV) (m : Mem) (nx : Nat) : Con Tryd.prog glob 65 [.p 0 0 0] ((0, .box 111 [.v (.pointer none), x, h]) :: m) nx (retM (.t []) ((0, .box 111 [.p 0 0 0, x, h]) :: m) nx) :=
  con_pokeT ⟨_, Tryd.func65, rfl, rfl⟩ fun w b u us hl hb => by
    match us, hl with
    | [p], _ => exact cc_freshP w b u p hb
theorem ccPU (x h : SV) (m : Mem) (nx : Nat) : Con Tryd.prog glob 65 [.p 0 0 0] ((0, .box 111 [.p 0 0 0, x, h]) :: m) nx (retM (.t []) ((0, .box 111 [.p 0 0 0, x, h]) :: m) nx) :=
  con_keepT ⟨_, Tryd.func65, rfl, rfl⟩ fun w b u us hl hb => by
    match us, hl with
    | [p], _ => exact cc_usedP w b u p hb
/-- A writer that has never been written; one that has (its row is chunk 1, or 2). -/
abbrev wrF (h : Bool) : Ch := .box 111 [.v (.pointer none), .v (.slice none 0 0), .v (.bool h)]
abbrev wrU (h : Bool) : Ch := .box 111 [.p 0 0 0, .o 1, .v (.bool h)]
abbrev wrV (h : Bool) : Ch := .box 111 [.p 0 0 0, .o 2, .v (.bool h)]
theorem strPF_con (h : Bool) : Con Tryd.prog glob 45 [.p 0 0 0] [(0, wrF h)] 1 (retM (str []) [] 1) :=
  con_bstrFT ⟨_, Tryd.func45, rfl, rfl⟩ fun w b hc => bstr_atF Tryd.lays169 Tryd.Builder_Extra_169 b w hc
theorem strPU_con (h : Bool) (l : Byt) (hl : l ≠ []) : Con Tryd.prog glob 45 [.p 0 0 0] [(0, wrU h), (1, byOwn l)] 2 (retM (str l) [] 2) :=
  con_bstrT ⟨_, Tryd.func45, rfl, rfl⟩ fun w b v h1 h2 => bstr_at Tryd.lays169 Tryd.Builder_Extra_169 b l w v h1 h2 hl
set_option maxRecDepth 100000 in
set_option maxHeartbeats 4000000 in
theorem wsPF_con (h : Bool) (x : Byt) (hx : x.length ≤ 140737488355328) : Con Tryd.prog glob 44 [.p 0 0 0, str x] [(0, wrF h)] 1 (retM (.t [.v (.int .i64 x.length), .v .nilIface]) [(0, wrU h), (1, byOwn x)] 2) := by
  have hb : (bs x).size = x.length := bs_size x
  refine spec_intro (tab := tab) (N := 19) Tryd.func44 rfl rfl tab_ok mix rfl rfl _ rfl ?_
  intro B hG
  repeat' (first | refine And.intro (by first | omega | (dsimp only; omega) | (show (_ : Bool) = true; kernel_rfl) | decide | (repeat' (first | refine And.intro ?_ ?_ | exact trivial | exact rfl))) ?_ | refine bcs_dec (fun h => ?_) (fun h => ?_) | refine bcs_ndec (fun h => ?_) (fun h => ?_) | refine bcs_not ?_ | refine bcs_intro (fun h => ?_) (fun h => ?_) | refine And.intro ?_ ?_ | refine reg_tail (by kernel_rfl) ?_)
  refine call_rule [.at 0 0] (ccPF (.v (.slice none 0 0)) (.v (.bool h)) [] 1) hG ?_ ?_
  · (refine ⟨?_, ?_, rfl, rfl, rfl⟩ <;> repeat' (first | refine And.intro ?_ ?_ | exact trivial | exact rfl | refine lt0 | refine lt1 ?_ | refine lt2 ?_ ?_ | refine lt3 ?_ ?_ ?_ | refine lt4 ?_ ?_ ?_ ?_ | exact veq_refl _ | decide | (intro i hi; repeat' (first | refine And.intro ?_ ?_ | exact trivial | exact rfl))))
    all_goals first | exact Nat.le_refl _ | omega
  rintro _ _ _ ⟨rfl, rfl, rfl⟩
  repeat' (first | refine And.intro (by first | omega | (dsimp only; omega) | (show (_ : Bool) = true; kernel_rfl) | decide | (repeat' (first | refine And.intro ?_ ?_ | exact trivial | exact rfl))) ?_ | refine bcs_dec (fun h => ?_) (fun h => ?_) | refine bcs_ndec (fun h => ?_) (fun h => ?_) | refine bcs_not ?_ | refine bcs_intro (fun h => ?_) (fun h => ?_) | refine And.intro ?_ ?_ | refine reg_tail (by kernel_rfl) ?_)
  refine ext_apps Tryd.underlying71 Tryd.underlying9 (te := Tryd.t5) (by kernel_rfl) rfl rfl rfl rfl ?_
  repeat' (first | refine And.intro (by first | omega | (dsimp only; omega) | (show (_ : Bool) = true; kernel_rfl) | decide | (repeat' (first | refine And.intro ?_ ?_ | exact trivial | exact rfl))) ?_ | refine bcs_dec (fun h => ?_) (fun h => ?_) | refine bcs_ndec (fun h => ?_) (fun h => ?_) | refine bcs_not ?_ | refine bcs_intro (fun h => ?_) (fun h => ?_) | refine And.intro ?_ ?_)
  refine appB0 ?_
  repeat' (first | refine And.intro (by first | omega | (dsimp only; omega) | (show (_ : Bool) = true; kernel_rfl) | decide | (repeat' (first | refine And.intro ?_ ?_ | exact trivial | exact rfl))) ?_ | refine bcs_dec (fun h => ?_) (fun h => ?_) | refine bcs_ndec (fun h => ?_) (fun h => ?_) | refine bcs_not ?_ | refine bcs_intro (fun h => ?_) (fun h => ?_) | refine And.intro ?_ ?_ | refine reg_tail (by kernel_rfl) ?_)
  refine ret_mem [.at 1 0] rfl rfl ?_ ?_
  · repeat' (first | refine And.intro ?_ ?_ | exact trivial)
    · exact veq_of_eq (congrArg (Value.int .i64) (by rw [hb]))
    all_goals exact rfl
  · repeat' (first | refine And.intro ?_ ?_ | exact trivial)
    all_goals try first | exact rfl | exact veq_refl _
    · show x.length = 0 + (bs x).size
      omega
    intro i hi
    repeat' (first | refine And.intro ?_ ?_ | exact trivial)
    all_goals exact rfl
set_option maxRecDepth 100000 in
set_option maxHeartbeats 4000000 in
theorem wsPU_con (h : Bool) (x l : Byt) (hx : l.length + x.length ≤ 140737488355328) : Con Tryd.prog glob 44 [.p 0 0 0, str x] [(0, wrU h), (1, byOwn l)] 2 (retM (.t [.v (.int .i64 x.length), .v .nilIface]) [(0, wrV h), (2, byOwn (l ++ x))] 3) := by
  have hb : (bs x).size = x.length := bs_size x
  refine spec_intro (tab := tab) (N := 19) Tryd.func44 rfl rfl tab_ok mix rfl rfl _ rfl ?_
  intro B hG
  repeat' (first | refine And.intro (by first | omega | (dsimp only; omega) | (show (_ : Bool) = true; kernel_rfl) | decide | (repeat' (first | refine And.intro ?_ ?_ | exact trivial | exact rfl))) ?_ | refine bcs_dec (fun h => ?_) (fun h => ?_) | refine bcs_ndec (fun h => ?_) (fun h => ?_) | refine bcs_not ?_ | refine bcs_intro (fun h => ?_) (fun h => ?_) | refine And.intro ?_ ?_ | refine reg_tail (by kernel_rfl) ?_)
  refine call_rule [.at 0 0, .at 1 0] (ccPU (.o 1) (.v (.bool h)) [(1, byOwn l)] 2) hG ?_ ?_
  · (refine ⟨?_, ?_, rfl, rfl, rfl⟩ <;> repeat' (first | refine And.intro ?_ ?_ | exact trivial | exact rfl | refine lt0 | refine lt1 ?_ | refine lt2 ?_ ?_ | refine lt3 ?_ ?_ ?_ | refine lt4 ?_ ?_ ?_ ?_ | exact veq_refl _ | decide | (intro i hi; repeat' (first | refine And.intro ?_ ?_ | exact trivial | exact rfl))))
    all_goals first | exact Nat.le_refl _ | omega
  rintro _ _ _ ⟨rfl, rfl, rfl⟩
  repeat' (first | refine And.intro (by first | omega | (dsimp only; omega) | (show (_ : Bool) = true; kernel_rfl) | decide | (repeat' (first | refine And.intro ?_ ?_ | exact trivial | exact rfl))) ?_ | refine bcs_dec (fun h => ?_) (fun h => ?_) | refine bcs_ndec (fun h => ?_) (fun h => ?_) | refine bcs_not ?_ | refine bcs_intro (fun h => ?_) (fun h => ?_) | refine And.intro ?_ ?_ | refine reg_tail (by kernel_rfl) ?_)
  refine ext_apps Tryd.underlying71 Tryd.underlying9 (te := Tryd.t5) (by kernel_rfl) rfl rfl rfl rfl ?_
  repeat' (first | refine And.intro (by first | omega | (dsimp only; omega) | (show (_ : Bool) = true; kernel_rfl) | decide | (repeat' (first | refine And.intro ?_ ?_ | exact trivial | exact rfl))) ?_ | refine bcs_dec (fun h => ?_) (fun h => ?_) | refine bcs_ndec (fun h => ?_) (fun h => ?_) | refine bcs_not ?_ | refine bcs_intro (fun h => ?_) (fun h => ?_) | refine And.intro ?_ ?_)
  refine appB rfl ?_
  repeat' (first | refine And.intro (by first | omega | (dsimp only; omega) | (show (_ : Bool) = true; kernel_rfl) | decide | (repeat' (first | refine And.intro ?_ ?_ | exact trivial | exact rfl))) ?_ | refine bcs_dec (fun h => ?_) (fun h => ?_) | refine bcs_ndec (fun h => ?_) (fun h => ?_) | refine bcs_not ?_ | refine bcs_intro (fun h => ?_) (fun h => ?_) | refine And.intro ?_ ?_ | refine reg_tail (by kernel_rfl) ?_)
  refine ret_mem [.at 2 0] rfl rfl ?_ ?_
  · repeat' (first | refine And.intro ?_ ?_ | exact trivial)
    · exact veq_of_eq (congrArg (Value.int .i64) (by rw [hb]))
    all_goals exact rfl
  · repeat' (first | refine And.intro ?_ ?_ | exact trivial)
    all_goals try first | exact rfl | exact veq_refl _
    · rw [List.length_append, bs_size]
    intro i hi
    repeat' (first | refine And.intro ?_ ?_ | exact trivial)
    all_goals exact rfl
end Go.Proofs.YtlmjkphiicmclaaDoor
