/- Chapter 7: the middle of a shortest way. -/
import Derived.Test.YtdabahipeepheaaS3
import Derived.Test.YtdabahipeepheaaS3b
namespace Go.Proofs.Ytdabahipeepheaa
open Go Go.RowKit Vc

/-- What is known of the rows ahead of round hh. -/
structure Prv (f : Nat → Nat → Bool) (n m z hh : Nat) (F : List Int) : Prop where
  len : F.length = z
  row : ∀ h', h' + 1 = hh → RowAt f n m z F h'
  nul : hh = 0 → ∀ e, F.getD e 0 = 0
structure Nxt (f : Nat → Nat → Bool) (n m z hh : Nat) (F : List Int) : Prop where
  len : F.length = z
  row : RowAt f n m z F hh
theorem Prv.into {f : Nat → Nat → Bool} {n m z hh : Nat} {F : List Int} (h : Prv f n m z hh F) (k : Int) (hk : k = -((hh : Int) - 2 * max 0 ((hh : Int) - m))) : RowIn f n m z F hh k := RowIn.new hk h.row h.nul
theorem Nxt.prv {f : Nat → Nat → Bool} {n m z hh : Nat} {F : List Int} (h : Nxt f n m z hh F) : Prv f n m z (hh + 1) F :=
  ⟨h.len, fun h' e => by rw [show h' = hh by omega]; exact h.row, fun e => by omega⟩

def hFr (n m z : Nat) (odd : Int) (hh : Nat) : List (Nat × SV) := [(0, .s 0 0 n), (1, .s 1 0 m), (8, .v (.int .i64 n)), (9, .v (.int .i64 m)), (10, .v (.int .i64 z)), (11, .o 2), (12, .o 3), (13, .v (.int .i64 odd)), (14, .v (.int .i64 hh))]
def hSt (A C : Nat → Int) (n m z : Nat) (odd : Int) (hh : Nat) (F R : List Int) : St := ⟨hFr n m z odd hh, [(0, iRo n A), (1, iRo m C), (2, iOwn F), (3, iOwn R)], 4⟩
def pSt (A C : Nat → Int) (n m z : Nat) (odd : Int) (hh p : Nat) (F R : List Int) : St := ⟨(44, .o 4) :: (45, .v (.int .i64 2)) :: (46, .v (.int .i64 p)) :: hFr n m z odd hh, kMem A C n m F R, 5⟩

set_option maxRecDepth 100000 in
set_option maxHeartbeats 64000000 in
theorem p_loop (A C : Nat → Int) (n m : Nat) (hn : n ≤ 1048576) (hm : m ≤ 1048576) (z : Nat) (odd : Int) (hz : 2 * ((min n m : Nat) : Int) + 2 = (z : Int)) (hodd : odd = ((n + m : Nat) : Int) % 2) (hh : Nat) (hhl : hh ≤ n + m + 1) (F R : List Int) (B : Bs) (hG : B.glob = glob)
    (pF : Prv (fA A C n m) n m z hh F) (pR : Prv (gA A C n m) n m z hh R) (b1 : (n + m) % 2 = 1 → 2 * hh ≤ n + m - 2 * mq (fA A C n m) n m + 1) (b0 : (n + m) % 2 = 0 → 2 * hh ≤ n + m - 2 * mq (fA A C n m) n m)
    (E : Nat → St → Prop) (s0 : St) (new0 : List Kp) (hs : Sub 2 new0 s0 (pSt A C n m z odd hh 0 F R)) :
    LoopP ⟨Try.prog, tab, B, 229, 2⟩ (loopOf 2 Try.f21) s0 (fun i s' => bif Nat.beq i 2 then (∃ (y : List Int × List Int) (new : List Kp), (Nxt (fA A C n m) n m z hh y.1 ∧ Nxt (gA A C n m) n m z hh y.2 ∧ ((n + m) % 2 = 1 → 2 * hh + 1 ≤ n + m - 2 * mq (fA A C n m) n m) ∧ ((n + m) % 2 = 0 → 2 * hh + 2 ≤ n + m - 2 * mq (fA A C n m) n m)) ∧ Sub 2 new s' (pSt A C n m z odd hh 2 y.1 y.2)) else E i s')
      (RetP 2 tab [.tmp 4, .tmp 5, .tmp 6, .tmp 7] (snkQ A C n m)) := by
  refine loop_rule (α := Nat × List Int × List Int) (fun (p, F, R) => pSt A C n m z odd hh p F R)
    (fun (p, F, R) => (p = 0 ∧ Prv (fA A C n m) n m z hh F ∧ Prv (gA A C n m) n m z hh R) ∨ (p = 1 ∧ Nxt (fA A C n m) n m z hh F ∧ Prv (gA A C n m) n m z hh R ∧ ((n + m) % 2 = 1 → 2 * hh + 1 ≤ n + m - 2 * mq (fA A C n m) n m)) ∨
      (p = 2 ∧ Nxt (fA A C n m) n m z hh F ∧ Nxt (gA A C n m) n m z hh R ∧ ((n + m) % 2 = 1 → 2 * hh + 1 ≤ n + m - 2 * mq (fA A C n m) n m) ∧ ((n + m) % 2 = 0 → 2 * hh + 2 ≤ n + m - 2 * mq (fA A C n m) n m))) (fun (p, _, _) => 3 - p) (0, F, R) new0 (.inl ⟨rfl, pF, pR⟩) hs ?_
  clear pF pR hs F R
  rintro ⟨p, F, R⟩ (⟨rfl, pF, pR⟩ | ⟨rfl, pF, pR, b2⟩ | ⟨rfl, pF, pR, b2, b3⟩)
  · have lF := pF.len
    have lR := pR.len
    have hide := Hd.mk b1
    have hide0 := Hd.mk hz
    have hide1 := Hd.mk hodd
    clear b1 b0 hz hodd
    repeat' (first | refine Both.mk ?_ ?_ | refine And.intro (by first | (show (_ : Bool) = true; kernel_rfl) | omega | (dsimp only; omega) | decide | (repeat' (first | refine And.intro ?_ ?_ | exact trivial | exact rfl))) ?_ | refine bcs_dec (fun h => ?_) (fun h => False.elim (by first | omega | exact h rfl)) | refine bcs_dec (fun h => False.elim (by omega)) (fun h => ?_) | refine bcs_dec (fun h => ?_) (fun h => ?_) | refine bcs_ndec (fun h => ?_) (fun h => ?_) | refine bcs_not ?_ | refine And.intro ?_ ?_)
    all_goals first
      | omega
      | skip
    refine loop_out (fun y : List Int × Int => kSt A C n m z odd hh 1 2 3 0 y.2 y.1 R) _ (k_loop1 A C n m hn hm z odd 1 rfl hide0.out hide1.out 0 hh hhl F R lF lR (-((hh : Int) - 2 * max 0 ((hh : Int) - m))) rfl (pF.into _ rfl) pR.row hide.out B hG _ _ [.at 2 0, .at 3 0, .at 4 0] ?_) ?_
    · (refine ⟨rfl, rfl, ?_, ?_⟩ <;> repeat' (first | refine And.intro ?_ ?_ | exact trivial | exact rfl | refine lt0 | refine lt1 ?_ | refine lt2 ?_ ?_ | refine lt3 ?_ ?_ ?_ | refine lt4 ?_ ?_ ?_ ?_ | exact veq_refl _ | decide | (intro i hi; repeat' (first | refine And.intro ?_ ?_ | exact trivial | exact rfl))))
      all_goals first | exact Nat.le_refl _ | omega | (show @Eq Int _ _; omega)
    · rintro ⟨F', k'⟩ ⟨l1, l2, l3, l4, l5⟩
      repeat' (first | refine Both.mk ?_ ?_ | refine And.intro (by first | (show (_ : Bool) = true; kernel_rfl) | omega | (dsimp only; omega) | decide | (repeat' (first | refine And.intro ?_ ?_ | exact trivial | exact rfl))) ?_ | refine bcs_dec (fun h => ?_) (fun h => False.elim (by first | omega | exact h rfl)) | refine bcs_dec (fun h => False.elim (by omega)) (fun h => ?_) | refine bcs_dec (fun h => ?_) (fun h => ?_) | refine bcs_ndec (fun h => ?_) (fun h => ?_) | refine bcs_not ?_ | refine And.intro ?_ ?_)
      all_goals first
        | omega
        | skip
      refine ⟨(1, F', R), [.at 2 0, .at 3 0, .at 4 0], .inr (.inl ⟨rfl, ⟨l1, l2⟩, pR, l3⟩), ?_, ?_⟩
      · show 3 - 1 < 3 - 0
        omega
      · (refine ⟨rfl, rfl, ?_, ?_⟩ <;> repeat' (first | refine And.intro ?_ ?_ | exact trivial | exact rfl | refine lt0 | refine lt1 ?_ | refine lt2 ?_ ?_ | refine lt3 ?_ ?_ ?_ | refine lt4 ?_ ?_ ?_ ?_ | exact veq_refl _ | decide | (intro i hi; repeat' (first | refine And.intro ?_ ?_ | exact trivial | exact rfl))))
        all_goals first | exact Nat.le_refl _ | omega | (show @Eq Int _ _; omega)
  · have lF := pF.len
    have lR := pR.len
    have hide := Hd.mk b0
    have hide0 := Hd.mk hz
    have hide1 := Hd.mk hodd
    clear b1 b0 hz hodd
    repeat' (first | refine Both.mk ?_ ?_ | refine And.intro (by first | (show (_ : Bool) = true; kernel_rfl) | omega | (dsimp only; omega) | decide | (repeat' (first | refine And.intro ?_ ?_ | exact trivial | exact rfl))) ?_ | refine bcs_dec (fun h => ?_) (fun h => False.elim (by first | omega | exact h rfl)) | refine bcs_dec (fun h => False.elim (by omega)) (fun h => ?_) | refine bcs_dec (fun h => ?_) (fun h => ?_) | refine bcs_ndec (fun h => ?_) (fun h => ?_) | refine bcs_not ?_ | refine And.intro ?_ ?_)
    all_goals first
      | omega
      | skip
    refine loop_out (fun y : List Int × Int => kSt A C n m z odd hh 0 3 2 1 y.2 F y.1) _ (k_loop0 A C n m hn hm z odd 0 rfl hide0.out hide1.out 1 hh hhl F R lF lR (-((hh : Int) - 2 * max 0 ((hh : Int) - m))) rfl (pR.into _ rfl) (fun h' e => by rw [show h' = hh by omega]; exact pF.row) hide.out B hG _ _ [.at 2 0, .at 3 0, .at 4 0] ?_) ?_
    · (refine ⟨rfl, rfl, ?_, ?_⟩ <;> repeat' (first | refine And.intro ?_ ?_ | exact trivial | exact rfl | refine lt0 | refine lt1 ?_ | refine lt2 ?_ ?_ | refine lt3 ?_ ?_ ?_ | refine lt4 ?_ ?_ ?_ ?_ | exact veq_refl _ | decide | (intro i hi; repeat' (first | refine And.intro ?_ ?_ | exact trivial | exact rfl))))
      all_goals first | exact Nat.le_refl _ | omega | (show @Eq Int _ _; omega)
    · rintro ⟨F', k'⟩ ⟨l1, l2, l3, l4, l5⟩
      repeat' (first | refine Both.mk ?_ ?_ | refine And.intro (by first | (show (_ : Bool) = true; kernel_rfl) | omega | (dsimp only; omega) | decide | (repeat' (first | refine And.intro ?_ ?_ | exact trivial | exact rfl))) ?_ | refine bcs_dec (fun h => ?_) (fun h => False.elim (by first | omega | exact h rfl)) | refine bcs_dec (fun h => False.elim (by omega)) (fun h => ?_) | refine bcs_dec (fun h => ?_) (fun h => ?_) | refine bcs_ndec (fun h => ?_) (fun h => ?_) | refine bcs_not ?_ | refine And.intro ?_ ?_)
      all_goals first
        | omega
        | skip
      refine ⟨(2, F, F'), [.at 2 0, .at 3 0, .at 4 0], .inr (.inr ⟨rfl, pF, ⟨l1, l2⟩, b2, l3⟩), ?_, ?_⟩
      · show 3 - 2 < 3 - 1
        omega
      · (refine ⟨rfl, rfl, ?_, ?_⟩ <;> repeat' (first | refine And.intro ?_ ?_ | exact trivial | exact rfl | refine lt0 | refine lt1 ?_ | refine lt2 ?_ ?_ | refine lt3 ?_ ?_ ?_ | refine lt4 ?_ ?_ ?_ ?_ | exact veq_refl _ | decide | (intro i hi; repeat' (first | refine And.intro ?_ ?_ | exact trivial | exact rfl))))
        all_goals first | exact Nat.le_refl _ | omega | (show @Eq Int _ _; omega)
  · repeat' (first | refine Both.mk ?_ ?_ | refine And.intro (by first | (show (_ : Bool) = true; kernel_rfl) | omega | (dsimp only; omega) | decide | (repeat' (first | refine And.intro ?_ ?_ | exact trivial | exact rfl))) ?_ | refine bcs_dec (fun h => ?_) (fun h => False.elim (by first | omega | exact h rfl)) | refine bcs_dec (fun h => False.elim (by omega)) (fun h => ?_) | refine bcs_dec (fun h => ?_) (fun h => ?_) | refine bcs_ndec (fun h => ?_) (fun h => ?_) | refine bcs_not ?_ | refine And.intro ?_ ?_)
    all_goals first
      | omega
      | skip
    refine ⟨(F, R), [.at 2 0, .at 3 0, .at 4 0], ⟨pF, pR, b2, b3⟩, ?_⟩
    (refine ⟨rfl, rfl, ?_, ?_⟩ <;> repeat' (first | refine And.intro ?_ ?_ | exact trivial | exact rfl | refine lt0 | refine lt1 ?_ | refine lt2 ?_ ?_ | refine lt3 ?_ ?_ ?_ | refine lt4 ?_ ?_ ?_ ?_ | exact veq_refl _ | decide | (intro i hi; repeat' (first | refine And.intro ?_ ?_ | exact trivial | exact rfl))))
    all_goals first | exact Nat.le_refl _ | omega | (show @Eq Int _ _; omega)

set_option maxRecDepth 100000 in
set_option maxHeartbeats 64000000 in
theorem h_loop (A C : Nat → Int) (n m : Nat) (hn : n ≤ 1048576) (hm : m ≤ 1048576) (z : Nat) (odd : Int) (hz : 2 * ((min n m : Nat) : Int) + 2 = (z : Int)) (hodd : odd = ((n + m : Nat) : Int) % 2) (B : Bs) (hG : B.glob = glob)
    (E : Nat → St → Prop) (s0 : St) (new0 : List Kp) (hs : Sub 2 new0 s0 (hSt A C n m z odd 0 (List.replicate z 0) (List.replicate z 0))) :
    LoopP ⟨Try.prog, tab, B, 229, 2⟩ (loopOf 0 Try.f21) s0 E (RetP 2 tab [.tmp 4, .tmp 5, .tmp 6, .tmp 7] (snkQ A C n m)) := by
  have hqle := (mq_most (fA A C n m) n m).1.le
  have hnul : ∀ e, (List.replicate z (0 : Int)).getD e 0 = 0 := fun e => by
    rw [List.getD_eq_getElem?_getD, List.getElem?_replicate]
    split <;> rfl
  refine loop_rule (α := Nat × List Int × List Int) (fun (hh, F, R) => hSt A C n m z odd hh F R)
    (fun (hh, F, R) => Prv (fA A C n m) n m z hh F ∧ Prv (gA A C n m) n m z hh R ∧ ((n + m) % 2 = 1 → 2 * hh ≤ n + m - 2 * mq (fA A C n m) n m + 1) ∧ ((n + m) % 2 = 0 → 2 * hh ≤ n + m - 2 * mq (fA A C n m) n m)) (fun (hh, _, _) => n + m + 2 - hh)
    (0, List.replicate z 0, List.replicate z 0) new0 ⟨⟨by simp, fun h' e => by omega, fun _ => hnul⟩, ⟨by simp, fun h' e => by omega, fun _ => hnul⟩, fun _ => by omega, fun _ => by omega⟩ hs ?_
  rintro ⟨hh, F, R⟩ ⟨pF, pR, b1, b0⟩
  clear hs hnul
  have hhl : hh ≤ n + m + 1 := by omega
  have hide0 := Hd.mk hz
  have hide1 := Hd.mk hodd
  have hide2 := Hd.mk b1
  have hide3 := Hd.mk b0
  clear hz hodd b1 b0
  repeat' (first | refine Both.mk ?_ ?_ | refine And.intro (by first | (show (_ : Bool) = true; kernel_rfl) | omega | (dsimp only; omega) | decide | (repeat' (first | refine And.intro ?_ ?_ | exact trivial | exact rfl))) ?_ | refine bcs_dec (fun h => ?_) (fun h => False.elim (by first | omega | exact h rfl)) | refine bcs_dec (fun h => False.elim (by omega)) (fun h => ?_) | refine bcs_dec (fun h => ?_) (fun h => ?_) | refine bcs_ndec (fun h => ?_) (fun h => ?_) | refine bcs_not ?_ | refine And.intro ?_ ?_)
  all_goals first
    | omega
    | skip
  refine loop_out (fun y : List Int × List Int => pSt A C n m z odd hh 2 y.1 y.2) _ (p_loop A C n m hn hm z odd hide0.out hide1.out hh hhl F R B hG pF pR hide2.out hide3.out _ _ [.at 2 0, .at 3 0, .at 4 0] ?_) ?_
  · (refine ⟨rfl, rfl, ?_, ?_⟩ <;> repeat' (first | refine And.intro ?_ ?_ | exact trivial | exact rfl | refine lt0 | refine lt1 ?_ | refine lt2 ?_ ?_ | refine lt3 ?_ ?_ ?_ | refine lt4 ?_ ?_ ?_ ?_ | exact veq_refl _ | decide | (intro i hi; repeat' (first | refine And.intro ?_ ?_ | exact trivial | exact rfl))))
    all_goals first | exact Nat.le_refl _ | omega | (show @Eq Int _ _; omega)
  · rintro ⟨F', R'⟩ ⟨q1, q2, q3, q4⟩
    have hq1 := Hd.mk q3
    have hq2 := Hd.mk q4
    clear q3 q4
    repeat' (first | refine Both.mk ?_ ?_ | refine And.intro (by first | (show (_ : Bool) = true; kernel_rfl) | omega | (dsimp only; omega) | decide | (repeat' (first | refine And.intro ?_ ?_ | exact trivial | exact rfl))) ?_ | refine bcs_dec (fun h => ?_) (fun h => False.elim (by first | omega | exact h rfl)) | refine bcs_dec (fun h => False.elim (by omega)) (fun h => ?_) | refine bcs_dec (fun h => ?_) (fun h => ?_) | refine bcs_ndec (fun h => ?_) (fun h => ?_) | refine bcs_not ?_ | refine And.intro ?_ ?_)
    all_goals first
      | omega
      | skip
    have b1 := hide2.out
    have b0 := hide3.out
    have q3 := hq1.out
    have q4 := hq2.out
    refine ⟨(hh + 1, F', R'), [.at 2 0, .at 3 0], ⟨q1.prv, q2.prv, fun _ => by omega, fun _ => by omega⟩, ?_, ?_⟩
    · show n + m + 2 - (hh + 1) < n + m + 2 - hh
      omega
    · (refine ⟨rfl, rfl, ?_, ?_⟩ <;> repeat' (first | refine And.intro ?_ ?_ | exact trivial | exact rfl | refine lt0 | refine lt1 ?_ | refine lt2 ?_ ?_ | refine lt3 ?_ ?_ ?_ | refine lt4 ?_ ?_ ?_ ?_ | exact veq_refl _ | decide | (intro i hi; repeat' (first | refine And.intro ?_ ?_ | exact trivial | exact rfl))))
      all_goals first | exact Nat.le_refl _ | omega | (show @Eq Int _ _; omega)

set_option maxRecDepth 100000 in
set_option maxHeartbeats 64000000 in
theorem snake_con (A C : Nat → Int) (n m : Nat) (hn : n ≤ 1048576) (hm : m ≤ 1048576) : Con Try.prog glob 21 [.s 0 0 n, .s 1 0 m] [(0, iRo n A), (1, iRo m C)] 2 (snkQ A C n m) := by
  have hqle := (mq_most (fA A C n m) n m).1.le
  obtain ⟨z, hz⟩ : ∃ z : Nat, 2 * ((min n m : Nat) : Int) + 2 = (z : Int) := ⟨2 * min n m + 2, by omega⟩
  obtain ⟨odd, hodd⟩ : ∃ odd : Int, odd = ((n + m : Nat) : Int) % 2 := ⟨_, rfl⟩
  have hmod : ((n : Int) + m).tmod 2 = odd := by
    rw [Int.tmod_eq_emod_of_nonneg (by omega), hodd]
    omega
  have hr : ∀ e, (List.replicate z (0 : Int)).getD e 0 = 0 := fun e => by
    rw [List.getD_eq_getElem?_getD, List.getElem?_replicate]
    split <;> rfl
  have lz : ((2 : Int) * min (n : Int) (m : Int) + 2).toNat = (List.replicate z (0 : Int)).length := by rw [List.length_replicate]; omega
  refine spec_intro (tab := tab) (N := 229) Try.func21 rfl rfl tab_ok mix rfl rfl _ rfl ?_
  intro B hG
  repeat' (first | refine Both.mk ?_ ?_ | refine And.intro (by first | (show (_ : Bool) = true; kernel_rfl) | omega | (dsimp only; omega) | decide | (repeat' (first | refine And.intro ?_ ?_ | exact trivial | exact rfl))) ?_ | refine bcs_dec (fun h => ?_) (fun h => False.elim (by first | omega | exact h rfl)) | refine bcs_dec (fun h => False.elim (by omega)) (fun h => ?_) | refine bcs_dec (fun h => ?_) (fun h => ?_) | refine bcs_ndec (fun h => ?_) (fun h => ?_) | refine bcs_not ?_ | refine And.intro ?_ ?_)
  all_goals first
    | omega
    | skip
  refine reg_ord [] (.early 0 (.early 2 (.fork 1 (.early 4 (.late 3 (.late 5 .nil))) 3 (.late 1 (.late 4 (.late 5 .nil)))))) (by decide +kernel) rfl ?_
  intro B' hB'
  have hG' := hG
  have hG := hB'.trans hG
  repeat' (first | refine Both.mk ?_ ?_ | refine And.intro (by first | (show (_ : Bool) = true; kernel_rfl) | omega | (dsimp only; omega) | decide | (repeat' (first | refine And.intro ?_ ?_ | exact trivial | exact rfl))) ?_ | refine bcs_dec (fun h => ?_) (fun h => False.elim (by first | omega | exact h rfl)) | refine bcs_dec (fun h => False.elim (by omega)) (fun h => ?_) | refine bcs_dec (fun h => ?_) (fun h => ?_) | refine bcs_ndec (fun h => ?_) (fun h => ?_) | refine bcs_not ?_ | refine And.intro ?_ ?_)
  all_goals first
    | omega
    | skip
  all_goals have hG := hG'
  · skip
    repeat' (first | refine Both.mk ?_ ?_ | refine And.intro (by first | (show (_ : Bool) = true; kernel_rfl) | omega | (dsimp only; omega) | decide | (repeat' (first | refine And.intro ?_ ?_ | exact trivial | exact rfl))) ?_ | refine bcs_dec (fun h => ?_) (fun h => False.elim (by first | omega | exact h rfl)) | refine bcs_dec (fun h => False.elim (by omega)) (fun h => ?_) | refine bcs_dec (fun h => ?_) (fun h => ?_) | refine bcs_ndec (fun h => ?_) (fun h => ?_) | refine bcs_not ?_ | refine And.intro ?_ ?_)
    refine h_loop A C n m hn hm z odd hz hodd B hG _ _ [.at 2 0, .at 3 0] ?_
    (refine ⟨rfl, rfl, ?_, ?_⟩ <;> repeat' (first | refine And.intro ?_ ?_ | exact trivial | exact rfl | refine lt0 | refine lt1 ?_ | refine lt2 ?_ ?_ | refine lt3 ?_ ?_ ?_ | refine lt4 ?_ ?_ ?_ ?_ | exact veq_refl _ | decide | (intro i hi; repeat' (first | refine And.intro ?_ ?_ | exact trivial | exact rfl))))
    all_goals first | exact Nat.le_refl _ | exact lz.symm | omega | (show @Eq Int _ _; exact (hr _)) | (show @Eq Int _ _; omega)
  · skip
    repeat' (first | refine Both.mk ?_ ?_ | refine And.intro (by first | (show (_ : Bool) = true; kernel_rfl) | omega | (dsimp only; omega) | decide | (repeat' (first | refine And.intro ?_ ?_ | exact trivial | exact rfl))) ?_ | refine bcs_dec (fun h => ?_) (fun h => False.elim (by first | omega | exact h rfl)) | refine bcs_dec (fun h => False.elim (by omega)) (fun h => ?_) | refine bcs_dec (fun h => ?_) (fun h => ?_) | refine bcs_ndec (fun h => ?_) (fun h => ?_) | refine bcs_not ?_ | refine And.intro ?_ ?_)
    refine h_loop A C n m hn hm z odd hz hodd B hG _ _ [.at 3 0, .at 2 0] ?_
    (refine ⟨rfl, rfl, ?_, ?_⟩ <;> repeat' (first | refine And.intro ?_ ?_ | exact trivial | exact rfl | refine lt0 | refine lt1 ?_ | refine lt2 ?_ ?_ | refine lt3 ?_ ?_ ?_ | refine lt4 ?_ ?_ ?_ ?_ | exact veq_refl _ | decide | (intro i hi; repeat' (first | refine And.intro ?_ ?_ | exact trivial | exact rfl))))
    all_goals first | exact Nat.le_refl _ | exact lz.symm | omega | (show @Eq Int _ _; exact (hr _)) | (show @Eq Int _ _; omega)
end Go.Proofs.Ytdabahipeepheaa
