/- Chapter 18: a chunk that is told: as two contracts. Printed by gen_w4.py. -/
import Derived.Test.YtlmjkphiicmclaaDoorW4n
import Derived.Test.YtlmjkphiicmclaaDoorW4f1
import Derived.Test.YtlmjkphiicmclaaDoorW4f2
import Derived.Test.YtlmjkphiicmclaaDoorW4f3
import Derived.Test.YtlmjkphiicmclaaDoorW4u1
import Derived.Test.YtlmjkphiicmclaaDoorW4u2
import Derived.Test.YtlmjkphiicmclaaDoorW4u3
namespace Go.Proofs.YtlmjkphiicmclaaDoor
open Go Go.RowKit Vc

theorem tellF_con (b m y lab : List Byt) (fmt : Int) (c : Chk) (last : Bool) (H : TellOk b m y lab fmt c) (f' : Bool) (q' : Byt) (hT : puts none (tellP b m y lab fmt c last) = some (f', q')) :
    Con Tryd.prog glob 59 [.a [.s 1 0 b.length, .s 2 0 m.length, .s 3 0 y.length, .s 4 0 lab.length, .v (.int .i64 fmt)], .p 0 0 0, ckV c, .v (.bool last)] [(0, wrF false), (1, stRo b), (2, stRo m), (3, stRo y), (4, stRo lab)] 5 (retM (.t []) [(0, .box 111 [.p 0 0 0, .o 5, .v (.bool f')]), (5, byOwn q')] 6) := by
  by_cases h3 : c.k = 3
  · exact tellFA1_con b m y lab fmt c last H f' q' hT h3
  by_cases h5 : c.k = 5
  · have h1 := H.hf1
    have h2 := H.hf2
    obtain rfl | rfl | rfl | rfl | rfl : fmt = 1 ∨ fmt = 2 ∨ fmt = 3 ∨ fmt = 4 ∨ fmt = 5 := by omega
    · exact tellFC1_con b m y lab 1 c last H f' q' hT ⟨h5, rfl⟩
    · exact tellFC2_con b m y lab 2 c last H f' q' hT ⟨h5, rfl⟩
    · exact tellFB_con b m y lab 3 c last H f' q' hT ⟨h5, rfl⟩
    · exact tellFD1_con b m y lab 4 c last H f' q' hT ⟨h5, rfl⟩
    · exact tellFA2_con b m y lab 5 c last H f' q' hT ⟨h5, rfl⟩
  · exact tellFD2_con b m y lab fmt c last H f' q' hT ⟨h3, h5⟩
theorem tellU_con (b m y lab : List Byt) (fmt : Int) (c : Chk) (last : Bool) (H : TellOk b m y lab fmt c) (f0 : Bool) (q0 : Byt) (hq0 : q0.length ≤ 4194304) (f' : Bool) (q' : Byt) (hT : puts (some (f0, q0)) (tellP b m y lab fmt c last) = some (f', q')) :
    Con Tryd.prog glob 59 [.a [.s 2 0 b.length, .s 3 0 m.length, .s 4 0 y.length, .s 5 0 lab.length, .v (.int .i64 fmt)], .p 0 0 0, ckV c, .v (.bool last)] [(0, wrU f0), (1, byOwn q0), (2, stRo b), (3, stRo m), (4, stRo y), (5, stRo lab)] 6 (retM (.t []) [(0, .box 111 [.p 0 0 0, .o 6, .v (.bool f')]), (6, byOwn q')] 7) := by
  by_cases h3 : c.k = 3
  · exact tellUA1_con b m y lab fmt c last H f0 q0 hq0 f' q' hT h3
  by_cases h5 : c.k = 5
  · have h1 := H.hf1
    have h2 := H.hf2
    obtain rfl | rfl | rfl | rfl | rfl : fmt = 1 ∨ fmt = 2 ∨ fmt = 3 ∨ fmt = 4 ∨ fmt = 5 := by omega
    · exact tellUC1_con b m y lab 1 c last H f0 q0 hq0 f' q' hT ⟨h5, rfl⟩
    · exact tellUC2_con b m y lab 2 c last H f0 q0 hq0 f' q' hT ⟨h5, rfl⟩
    · exact tellUB_con b m y lab 3 c last H f0 q0 hq0 f' q' hT ⟨h5, rfl⟩
    · exact tellUD1_con b m y lab 4 c last H f0 q0 hq0 f' q' hT ⟨h5, rfl⟩
    · exact tellUA2_con b m y lab 5 c last H f0 q0 hq0 f' q' hT ⟨h5, rfl⟩
  · exact tellUD2_con b m y lab fmt c last H f0 q0 hq0 f' q' hT ⟨h3, h5⟩
end Go.Proofs.YtlmjkphiicmclaaDoor
