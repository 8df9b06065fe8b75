/- The table of types. Printed by irp.py. -/
import Derived.Test.YtlmjkphiicmclaaDoorVc22
import Derived.Test.YtlmjkphiicmclaaDoorProg
import Derived.KernelRfl
namespace Go.Proofs.YtlmjkphiicmclaaDoor
open Go Vc
def ti25 : TI := ⟨.st [(0, 22), (1, 22), (2, 23), (3, 23), (4, 23), (5, 23), (6, 3)], 7, 152, [(.slice .none 0 0), (.slice .none 0 0), (.slice .none 0 0), (.slice .none 0 0), (.slice .none 0 0), (.slice .none 0 0), (.int .i64 0)]⟩
theorem ti25_ok : ti25.ok Tryd.prog 25 := ⟨⟨Tryd.t25, _, by kernel_rfl, rfl, rfl, rfl, rfl⟩, rfl, fun h => (by first | rfl | (cases h)), by simp [ti25, Value.oneCell'], ⟨_, Tryd.underlying25, ⟨_, rfl, rfl⟩⟩⟩
def ti22 : TI := ⟨.sl 50, 1, 24, [(.slice .none 0 0)]⟩
theorem ti22_ok : ti22.ok Tryd.prog 22 := ⟨⟨Tryd.t22, _, by kernel_rfl, rfl, rfl, rfl, rfl⟩, rfl, fun h => (by first | rfl | (cases h)), by simp [ti22, Value.oneCell'], ⟨_, Tryd.underlying22, rfl⟩⟩
def ti50 : TI := ⟨.st [(0, 3), (1, 3), (2, 3), (3, 3)], 4, 32, [(.int .i64 0), (.int .i64 0), (.int .i64 0), (.int .i64 0)]⟩
theorem ti50_ok : ti50.ok Tryd.prog 50 := ⟨⟨Tryd.t50, _, by kernel_rfl, rfl, rfl, rfl, rfl⟩, rfl, fun h => (by first | rfl | (cases h)), by simp [ti50, Value.oneCell'], ⟨_, Tryd.underlying50, ⟨_, rfl, rfl⟩⟩⟩
def ti3 : TI := ⟨.int .i64, 1, 8, [(.int .i64 0)]⟩
theorem ti3_ok : ti3.ok Tryd.prog 3 := ⟨⟨Tryd.t3, _, by kernel_rfl, rfl, rfl, rfl, rfl⟩, rfl, fun h => (by first | rfl | (cases h)), by simp [ti3, Value.oneCell'], ⟨_, Tryd.underlying3, rfl⟩⟩
def ti23 : TI := ⟨.sl 9, 1, 24, [(.slice .none 0 0)]⟩
theorem ti23_ok : ti23.ok Tryd.prog 23 := ⟨⟨Tryd.t23, _, by kernel_rfl, rfl, rfl, rfl, rfl⟩, rfl, fun h => (by first | rfl | (cases h)), by simp [ti23, Value.oneCell'], ⟨_, Tryd.underlying23, rfl⟩⟩
def ti9 : TI := ⟨.str, 1, 16, [(.string ⟨#[]⟩)]⟩
theorem ti9_ok : ti9.ok Tryd.prog 9 := ⟨⟨Tryd.t9, _, by kernel_rfl, rfl, rfl, rfl, rfl⟩, rfl, fun h => (by first | rfl | (cases h)), by simp [ti9, Value.oneCell'], ⟨_, Tryd.underlying9, rfl⟩⟩
def ti26 : TI := ⟨.sl 37, 1, 24, [(.slice .none 0 0)]⟩
theorem ti26_ok : ti26.ok Tryd.prog 26 := ⟨⟨Tryd.t26, _, by kernel_rfl, rfl, rfl, rfl, rfl⟩, rfl, fun h => (by first | rfl | (cases h)), by simp [ti26, Value.oneCell'], ⟨_, Tryd.underlying26, rfl⟩⟩
def ti37 : TI := ⟨.st [(0, 3), (1, 3), (2, 3), (3, 3), (4, 3), (5, 3), (6, 3)], 7, 56, [(.int .i64 0), (.int .i64 0), (.int .i64 0), (.int .i64 0), (.int .i64 0), (.int .i64 0), (.int .i64 0)]⟩
theorem ti37_ok : ti37.ok Tryd.prog 37 := ⟨⟨Tryd.t37, _, by kernel_rfl, rfl, rfl, rfl, rfl⟩, rfl, fun h => (by first | rfl | (cases h)), by simp [ti37, Value.oneCell'], ⟨_, Tryd.underlying37, ⟨_, rfl, rfl⟩⟩⟩
def ti31 : TI := ⟨.sl 36, 1, 24, [(.slice .none 0 0)]⟩
theorem ti31_ok : ti31.ok Tryd.prog 31 := ⟨⟨Tryd.t31, _, by kernel_rfl, rfl, rfl, rfl, rfl⟩, rfl, fun h => (by first | rfl | (cases h)), by simp [ti31, Value.oneCell'], ⟨_, Tryd.underlying31, rfl⟩⟩
def ti36 : TI := ⟨.st [(0, 3), (1, 3), (2, 3), (3, 3), (4, 3), (5, 3), (6, 3)], 7, 56, [(.int .i64 0), (.int .i64 0), (.int .i64 0), (.int .i64 0), (.int .i64 0), (.int .i64 0), (.int .i64 0)]⟩
theorem ti36_ok : ti36.ok Tryd.prog 36 := ⟨⟨Tryd.t36, _, by kernel_rfl, rfl, rfl, rfl, rfl⟩, rfl, fun h => (by first | rfl | (cases h)), by simp [ti36, Value.oneCell'], ⟨_, Tryd.underlying36, ⟨_, rfl, rfl⟩⟩⟩
def ti28 : TI := ⟨.ifc, 1, 16, [.nilIface]⟩
theorem ti28_ok : ti28.ok Tryd.prog 28 := ⟨⟨Tryd.t28, _, by kernel_rfl, rfl, rfl, rfl, rfl⟩, rfl, fun h => (by first | rfl | (cases h)), by simp [ti28, Value.oneCell'], ⟨_, Tryd.underlying28, ⟨_, rfl⟩⟩⟩
def ti4 : TI := ⟨.sc, 1, 1, [(.bool .false)]⟩
theorem ti4_ok : ti4.ok Tryd.prog 4 := ⟨⟨Tryd.t4, _, by kernel_rfl, rfl, rfl, rfl, rfl⟩, rfl, fun h => (by first | rfl | (cases h)), by simp [ti4, Value.oneCell'], ⟨_, Tryd.underlying4, trivial⟩⟩
def ti57 : TI := ⟨.sl 60, 1, 24, [(.slice .none 0 0)]⟩
theorem ti57_ok : ti57.ok Tryd.prog 57 := ⟨⟨Tryd.t57, _, by kernel_rfl, rfl, rfl, rfl, rfl⟩, rfl, fun h => (by first | rfl | (cases h)), by simp [ti57, Value.oneCell'], ⟨_, Tryd.underlying57, rfl⟩⟩
def ti60 : TI := ⟨.arr 2 3, 2, 16, [(.int .i64 0), (.int .i64 0)]⟩
theorem ti60_ok : ti60.ok Tryd.prog 60 := ⟨⟨Tryd.t60, _, by kernel_rfl, rfl, rfl, rfl, rfl⟩, rfl, fun h => (by first | rfl | (cases h)), by simp [ti60, Value.oneCell'], ⟨_, Tryd.underlying60, rfl⟩⟩
def ti67 : TI := ⟨.int .i64, 1, 8, [(.int .i64 0)]⟩
theorem ti67_ok : ti67.ok Tryd.prog 67 := ⟨⟨Tryd.t67, _, by kernel_rfl, rfl, rfl, rfl, rfl⟩, rfl, fun h => (by first | rfl | (cases h)), by simp [ti67, Value.oneCell'], ⟨_, Tryd.underlying67, rfl⟩⟩
def ti69 : TI := ⟨.sc, 1, 8, [(.pointer .none)]⟩
theorem ti69_ok : ti69.ok Tryd.prog 69 := ⟨⟨Tryd.t69, _, by kernel_rfl, rfl, rfl, rfl, rfl⟩, rfl, fun h => (by first | rfl | (cases h)), by simp [ti69, Value.oneCell'], ⟨_, Tryd.underlying69, trivial⟩⟩
def ti20 : TI := ⟨.ifc, 1, 16, [.nilIface]⟩
theorem ti20_ok : ti20.ok Tryd.prog 20 := ⟨⟨Tryd.t20, _, by kernel_rfl, rfl, rfl, rfl, rfl⟩, rfl, fun h => (by first | rfl | (cases h)), by simp [ti20, Value.oneCell'], ⟨_, Tryd.underlying20, ⟨_, rfl⟩⟩⟩
def ti5 : TI := ⟨.int .u8, 1, 1, [(.int .u8 0)]⟩
theorem ti5_ok : ti5.ok Tryd.prog 5 := ⟨⟨Tryd.t5, _, by kernel_rfl, rfl, rfl, rfl, rfl⟩, rfl, fun h => (by first | rfl | (cases h)), by simp [ti5, Value.oneCell'], ⟨_, Tryd.underlying5, rfl⟩⟩
def ti71 : TI := ⟨.sl 5, 1, 24, [(.slice .none 0 0)]⟩
theorem ti71_ok : ti71.ok Tryd.prog 71 := ⟨⟨Tryd.t71, _, by kernel_rfl, rfl, rfl, rfl, rfl⟩, rfl, fun h => (by first | rfl | (cases h)), by simp [ti71, Value.oneCell'], ⟨_, Tryd.underlying71, rfl⟩⟩
def ti79 : TI := ⟨.st [(0, 77), (1, 71)], 2, 32, [(.pointer .none), (.slice .none 0 0)]⟩
theorem ti79_ok : ti79.ok Tryd.prog 79 := ⟨⟨Tryd.t79, _, by kernel_rfl, rfl, rfl, rfl, rfl⟩, rfl, fun h => (by first | rfl | (cases h)), by simp [ti79, Value.oneCell'], ⟨_, Tryd.underlying79, ⟨_, rfl, rfl⟩⟩⟩
def ti77 : TI := ⟨.sc, 1, 8, [(.pointer .none)]⟩
theorem ti77_ok : ti77.ok Tryd.prog 77 := ⟨⟨Tryd.t77, _, by kernel_rfl, rfl, rfl, rfl, rfl⟩, rfl, fun h => (by first | rfl | (cases h)), by simp [ti77, Value.oneCell'], ⟨_, Tryd.underlying77, trivial⟩⟩
def ti89 : TI := ⟨.st [(0, 22), (1, 3)], 2, 32, [(.slice .none 0 0), (.int .i64 0)]⟩
theorem ti89_ok : ti89.ok Tryd.prog 89 := ⟨⟨Tryd.t89, _, by kernel_rfl, rfl, rfl, rfl, rfl⟩, rfl, fun h => (by first | rfl | (cases h)), by simp [ti89, Value.oneCell'], ⟨_, Tryd.underlying89, ⟨_, rfl, rfl⟩⟩⟩
def ti87 : TI := ⟨.sc, 1, 8, [(.pointer .none)]⟩
theorem ti87_ok : ti87.ok Tryd.prog 87 := ⟨⟨Tryd.t87, _, by kernel_rfl, rfl, rfl, rfl, rfl⟩, rfl, fun h => (by first | rfl | (cases h)), by simp [ti87, Value.oneCell'], ⟨_, Tryd.underlying87, trivial⟩⟩
def ti97 : TI := ⟨.st [(0, 17), (1, 94), (2, 95)], 3, 24, [(.pointer .none), (.pointer .none), (.int .u64 0)]⟩
theorem ti97_ok : ti97.ok Tryd.prog 97 := ⟨⟨Tryd.t97, _, by kernel_rfl, rfl, rfl, rfl, rfl⟩, rfl, fun h => (by first | rfl | (cases h)), by simp [ti97, Value.oneCell'], ⟨_, Tryd.underlying97, ⟨_, rfl, rfl⟩⟩⟩
def ti17 : TI := ⟨.sc, 1, 8, [(.pointer .none)]⟩
theorem ti17_ok : ti17.ok Tryd.prog 17 := ⟨⟨Tryd.t17, _, by kernel_rfl, rfl, rfl, rfl, rfl⟩, rfl, fun h => (by first | rfl | (cases h)), by simp [ti17, Value.oneCell'], ⟨_, Tryd.underlying17, trivial⟩⟩
def ti94 : TI := ⟨.sc, 1, 8, [(.pointer .none)]⟩
theorem ti94_ok : ti94.ok Tryd.prog 94 := ⟨⟨Tryd.t94, _, by kernel_rfl, rfl, rfl, rfl, rfl⟩, rfl, fun h => (by first | rfl | (cases h)), by simp [ti94, Value.oneCell'], ⟨_, Tryd.underlying94, trivial⟩⟩
def ti95 : TI := ⟨.int .u64, 1, 8, [(.int .u64 0)]⟩
theorem ti95_ok : ti95.ok Tryd.prog 95 := ⟨⟨Tryd.t95, _, by kernel_rfl, rfl, rfl, rfl, rfl⟩, rfl, fun h => (by first | rfl | (cases h)), by simp [ti95, Value.oneCell'], ⟨_, Tryd.underlying95, rfl⟩⟩
def ti102 : TI := ⟨.int .u8, 1, 1, [(.int .u8 0)]⟩
theorem ti102_ok : ti102.ok Tryd.prog 102 := ⟨⟨Tryd.t102, _, by kernel_rfl, rfl, rfl, rfl, rfl⟩, rfl, fun h => (by first | rfl | (cases h)), by simp [ti102, Value.oneCell'], ⟨_, Tryd.underlying102, rfl⟩⟩
def ti100 : TI := ⟨.ifc, 1, 16, [.nilIface]⟩
theorem ti100_ok : ti100.ok Tryd.prog 100 := ⟨⟨Tryd.t100, _, by kernel_rfl, rfl, rfl, rfl, rfl⟩, rfl, fun h => (by first | rfl | (cases h)), by simp [ti100, Value.oneCell'], ⟨_, Tryd.underlying100, ⟨_, rfl⟩⟩⟩
def ti108 : TI := ⟨.st [(0, 23), (1, 23), (2, 23), (3, 23), (4, 3)], 5, 104, [(.slice .none 0 0), (.slice .none 0 0), (.slice .none 0 0), (.slice .none 0 0), (.int .i64 0)]⟩
theorem ti108_ok : ti108.ok Tryd.prog 108 := ⟨⟨Tryd.t108, _, by kernel_rfl, rfl, rfl, rfl, rfl⟩, rfl, fun h => (by first | rfl | (cases h)), by simp [ti108, Value.oneCell'], ⟨_, Tryd.underlying108, ⟨_, rfl, rfl⟩⟩⟩
def ti111 : TI := ⟨.st [(0, 79), (2, 4)], 3, 40, [(.pointer .none), (.slice .none 0 0), (.bool .false)]⟩
theorem ti111_ok : ti111.ok Tryd.prog 111 := ⟨⟨Tryd.t111, _, by kernel_rfl, rfl, rfl, rfl, rfl⟩, rfl, fun h => (by first | rfl | (cases h)), by simp [ti111, Value.oneCell'], ⟨_, Tryd.underlying111, ⟨_, rfl, rfl⟩⟩⟩
def ti109 : TI := ⟨.sc, 1, 8, [(.pointer .none)]⟩
theorem ti109_ok : ti109.ok Tryd.prog 109 := ⟨⟨Tryd.t109, _, by kernel_rfl, rfl, rfl, rfl, rfl⟩, rfl, fun h => (by first | rfl | (cases h)), by simp [ti109, Value.oneCell'], ⟨_, Tryd.underlying109, trivial⟩⟩
def ti115 : TI := ⟨.sc, 1, 8, [(.pointer .none)]⟩
theorem ti115_ok : ti115.ok Tryd.prog 115 := ⟨⟨Tryd.t115, _, by kernel_rfl, rfl, rfl, rfl, rfl⟩, rfl, fun h => (by first | rfl | (cases h)), by simp [ti115, Value.oneCell'], ⟨_, Tryd.underlying115, trivial⟩⟩
def ti121 : TI := ⟨.sc, 1, 8, [.nilFunc]⟩
theorem ti121_ok : ti121.ok Tryd.prog 121 := ⟨⟨Tryd.t121, _, by kernel_rfl, rfl, rfl, rfl, rfl⟩, rfl, fun h => (by first | rfl | (cases h)), by simp [ti121, Value.oneCell'], ⟨_, Tryd.underlying121, trivial⟩⟩
def ti134 : TI := ⟨.sl 28, 1, 24, [(.slice .none 0 0)]⟩
theorem ti134_ok : ti134.ok Tryd.prog 134 := ⟨⟨Tryd.t134, _, by kernel_rfl, rfl, rfl, rfl, rfl⟩, rfl, fun h => (by first | rfl | (cases h)), by simp [ti134, Value.oneCell'], ⟨_, Tryd.underlying134, rfl⟩⟩
def ti141 : TI := ⟨.sc, 1, 8, [.nilFunc]⟩
theorem ti141_ok : ti141.ok Tryd.prog 141 := ⟨⟨Tryd.t141, _, by kernel_rfl, rfl, rfl, rfl, rfl⟩, rfl, fun h => (by first | rfl | (cases h)), by simp [ti141, Value.oneCell'], ⟨_, Tryd.underlying141, trivial⟩⟩
def ti2 : TI := ⟨.int .i64, 1, 8, [(.int .i64 0)]⟩
theorem ti2_ok : ti2.ok Tryd.prog 2 := ⟨⟨Tryd.t2, _, by kernel_rfl, rfl, rfl, rfl, rfl⟩, rfl, fun h => (by first | rfl | (cases h)), by simp [ti2, Value.oneCell'], ⟨_, Tryd.underlying2, rfl⟩⟩
def tab : Tab := [(25, ⟨.st [(0, 22), (1, 22), (2, 23), (3, 23), (4, 23), (5, 23), (6, 3)], 7, 152, [(.slice .none 0 0), (.slice .none 0 0), (.slice .none 0 0), (.slice .none 0 0), (.slice .none 0 0), (.slice .none 0 0), (.int .i64 0)]⟩), (22, ⟨.sl 50, 1, 24, [(.slice .none 0 0)]⟩), (50, ⟨.st [(0, 3), (1, 3), (2, 3), (3, 3)], 4, 32, [(.int .i64 0), (.int .i64 0), (.int .i64 0), (.int .i64 0)]⟩), (3, ⟨.int .i64, 1, 8, [(.int .i64 0)]⟩), (23, ⟨.sl 9, 1, 24, [(.slice .none 0 0)]⟩), (9, ⟨.str, 1, 16, [(.string ⟨#[]⟩)]⟩), (26, ⟨.sl 37, 1, 24, [(.slice .none 0 0)]⟩), (37, ⟨.st [(0, 3), (1, 3), (2, 3), (3, 3), (4, 3), (5, 3), (6, 3)], 7, 56, [(.int .i64 0), (.int .i64 0), (.int .i64 0), (.int .i64 0), (.int .i64 0), (.int .i64 0), (.int .i64 0)]⟩), (31, ⟨.sl 36, 1, 24, [(.slice .none 0 0)]⟩), (36, ⟨.st [(0, 3), (1, 3), (2, 3), (3, 3), (4, 3), (5, 3), (6, 3)], 7, 56, [(.int .i64 0), (.int .i64 0), (.int .i64 0), (.int .i64 0), (.int .i64 0), (.int .i64 0), (.int .i64 0)]⟩), (28, ⟨.ifc, 1, 16, [.nilIface]⟩), (4, ⟨.sc, 1, 1, [(.bool .false)]⟩), (57, ⟨.sl 60, 1, 24, [(.slice .none 0 0)]⟩), (60, ⟨.arr 2 3, 2, 16, [(.int .i64 0), (.int .i64 0)]⟩), (67, ⟨.int .i64, 1, 8, [(.int .i64 0)]⟩), (69, ⟨.sc, 1, 8, [(.pointer .none)]⟩), (20, ⟨.ifc, 1, 16, [.nilIface]⟩), (5, ⟨.int .u8, 1, 1, [(.int .u8 0)]⟩), (71, ⟨.sl 5, 1, 24, [(.slice .none 0 0)]⟩), (79, ⟨.st [(0, 77), (1, 71)], 2, 32, [(.pointer .none), (.slice .none 0 0)]⟩), (77, ⟨.sc, 1, 8, [(.pointer .none)]⟩), (89, ⟨.st [(0, 22), (1, 3)], 2, 32, [(.slice .none 0 0), (.int .i64 0)]⟩), (87, ⟨.sc, 1, 8, [(.pointer .none)]⟩), (97, ⟨.st [(0, 17), (1, 94), (2, 95)], 3, 24, [(.pointer .none), (.pointer .none), (.int .u64 0)]⟩), (17, ⟨.sc, 1, 8, [(.pointer .none)]⟩), (94, ⟨.sc, 1, 8, [(.pointer .none)]⟩), (95, ⟨.int .u64, 1, 8, [(.int .u64 0)]⟩), (102, ⟨.int .u8, 1, 1, [(.int .u8 0)]⟩), (100, ⟨.ifc, 1, 16, [.nilIface]⟩), (108, ⟨.st [(0, 23), (1, 23), (2, 23), (3, 23), (4, 3)], 5, 104, [(.slice .none 0 0), (.slice .none 0 0), (.slice .none 0 0), (.slice .none 0 0), (.int .i64 0)]⟩), (111, ⟨.st [(0, 79), (2, 4)], 3, 40, [(.pointer .none), (.slice .none 0 0), (.bool .false)]⟩), (109, ⟨.sc, 1, 8, [(.pointer .none)]⟩), (115, ⟨.sc, 1, 8, [(.pointer .none)]⟩), (121, ⟨.sc, 1, 8, [.nilFunc]⟩), (134, ⟨.sl 28, 1, 24, [(.slice .none 0 0)]⟩), (141, ⟨.sc, 1, 8, [.nilFunc]⟩), (2, ⟨.int .i64, 1, 8, [(.int .i64 0)]⟩)]
theorem tab_ok : Tab.ok Tryd.prog tab := by
  intro t i h
  simp only [tab] at h
  rcases tget_cons h with ⟨rfl, rfl⟩ | h
  · exact ti25_ok
  rcases tget_cons h with ⟨rfl, rfl⟩ | h
  · exact ti22_ok
  rcases tget_cons h with ⟨rfl, rfl⟩ | h
  · exact ti50_ok
  rcases tget_cons h with ⟨rfl, rfl⟩ | h
  · exact ti3_ok
  rcases tget_cons h with ⟨rfl, rfl⟩ | h
  · exact ti23_ok
  rcases tget_cons h with ⟨rfl, rfl⟩ | h
  · exact ti9_ok
  rcases tget_cons h with ⟨rfl, rfl⟩ | h
  · exact ti26_ok
  rcases tget_cons h with ⟨rfl, rfl⟩ | h
  · exact ti37_ok
  rcases tget_cons h with ⟨rfl, rfl⟩ | h
  · exact ti31_ok
  rcases tget_cons h with ⟨rfl, rfl⟩ | h
  · exact ti36_ok
  rcases tget_cons h with ⟨rfl, rfl⟩ | h
  · exact ti28_ok
  rcases tget_cons h with ⟨rfl, rfl⟩ | h
  · exact ti4_ok
  rcases tget_cons h with ⟨rfl, rfl⟩ | h
  · exact ti57_ok
  rcases tget_cons h with ⟨rfl, rfl⟩ | h
  · exact ti60_ok
  rcases tget_cons h with ⟨rfl, rfl⟩ | h
  · exact ti67_ok
  rcases tget_cons h with ⟨rfl, rfl⟩ | h
  · exact ti69_ok
  rcases tget_cons h with ⟨rfl, rfl⟩ | h
  · exact ti20_ok
  rcases tget_cons h with ⟨rfl, rfl⟩ | h
  · exact ti5_ok
  rcases tget_cons h with ⟨rfl, rfl⟩ | h
  · exact ti71_ok
  rcases tget_cons h with ⟨rfl, rfl⟩ | h
  · exact ti79_ok
  rcases tget_cons h with ⟨rfl, rfl⟩ | h
  · exact ti77_ok
  rcases tget_cons h with ⟨rfl, rfl⟩ | h
  · exact ti89_ok
  rcases tget_cons h with ⟨rfl, rfl⟩ | h
  · exact ti87_ok
  rcases tget_cons h with ⟨rfl, rfl⟩ | h
  · exact ti97_ok
  rcases tget_cons h with ⟨rfl, rfl⟩ | h
  · exact ti17_ok
  rcases tget_cons h with ⟨rfl, rfl⟩ | h
  · exact ti94_ok
  rcases tget_cons h with ⟨rfl, rfl⟩ | h
  · exact ti95_ok
  rcases tget_cons h with ⟨rfl, rfl⟩ | h
  · exact ti102_ok
  rcases tget_cons h with ⟨rfl, rfl⟩ | h
  · exact ti100_ok
  rcases tget_cons h with ⟨rfl, rfl⟩ | h
  · exact ti108_ok
  rcases tget_cons h with ⟨rfl, rfl⟩ | h
  · exact ti111_ok
  rcases tget_cons h with ⟨rfl, rfl⟩ | h
  · exact ti109_ok
  rcases tget_cons h with ⟨rfl, rfl⟩ | h
  · exact ti115_ok
  rcases tget_cons h with ⟨rfl, rfl⟩ | h
  · exact ti121_ok
  rcases tget_cons h with ⟨rfl, rfl⟩ | h
  · exact ti134_ok
  rcases tget_cons h with ⟨rfl, rfl⟩ | h
  · exact ti141_ok
  rcases tget_cons h with ⟨rfl, rfl⟩ | h
  · exact ti2_ok
  cases h
theorem mix : Tryd.prog.follows .mixedOrders = true := by kernel_rfl
end Go.Proofs.YtlmjkphiicmclaaDoor
