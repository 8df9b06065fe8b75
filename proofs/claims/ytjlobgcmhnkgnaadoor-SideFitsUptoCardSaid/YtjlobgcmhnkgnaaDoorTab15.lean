/- The table of types. Printed by irp.py. -/
import Derived.Test.YtjlobgcmhnkgnaaDoorVc22
import Derived.Test.YtjlobgcmhnkgnaaDoorProg
import Derived.KernelRfl
namespace Go.Proofs.YtjlobgcmhnkgnaaDoor
open Go Vc
def ti22 : TI := ⟨.sl 39, 1, 24, [(.slice .none 0 0)]⟩
theorem ti22_ok : ti22.ok Tryd.prog 22 := ⟨⟨Tryd.t22, _, by kernel_rfl, rfl, rfl, rfl, rfl⟩, rfl, fun h => (by first | rfl | (cases h)), by simp [ti22, Value.oneCell'], ⟨_, Tryd.underlying22, rfl⟩⟩
def ti39 : TI := ⟨.st [(0, 3), (1, 3), (2, 3), (3, 3)], 4, 32, [(.int .i64 0), (.int .i64 0), (.int .i64 0), (.int .i64 0)]⟩
theorem ti39_ok : ti39.ok Tryd.prog 39 := ⟨⟨Tryd.t39, _, by kernel_rfl, rfl, rfl, rfl, rfl⟩, rfl, fun h => (by first | rfl | (cases h)), by simp [ti39, Value.oneCell'], ⟨_, Tryd.underlying39, ⟨_, rfl, rfl⟩⟩⟩
def ti3 : TI := ⟨.int .i64, 1, 8, [(.int .i64 0)]⟩
theorem ti3_ok : ti3.ok Tryd.prog 3 := ⟨⟨Tryd.t3, _, by kernel_rfl, rfl, rfl, rfl, rfl⟩, rfl, fun h => (by first | rfl | (cases h)), by simp [ti3, Value.oneCell'], ⟨_, Tryd.underlying3, rfl⟩⟩
def ti23 : TI := ⟨.sl 9, 1, 24, [(.slice .none 0 0)]⟩
theorem ti23_ok : ti23.ok Tryd.prog 23 := ⟨⟨Tryd.t23, _, by kernel_rfl, rfl, rfl, rfl, rfl⟩, rfl, fun h => (by first | rfl | (cases h)), by simp [ti23, Value.oneCell'], ⟨_, Tryd.underlying23, rfl⟩⟩
def ti9 : TI := ⟨.str, 1, 16, [(.string ⟨#[]⟩)]⟩
theorem ti9_ok : ti9.ok Tryd.prog 9 := ⟨⟨Tryd.t9, _, by kernel_rfl, rfl, rfl, rfl, rfl⟩, rfl, fun h => (by first | rfl | (cases h)), by simp [ti9, Value.oneCell'], ⟨_, Tryd.underlying9, rfl⟩⟩
def ti25 : TI := ⟨.ifc, 1, 16, [.nilIface]⟩
theorem ti25_ok : ti25.ok Tryd.prog 25 := ⟨⟨Tryd.t25, _, by kernel_rfl, rfl, rfl, rfl, rfl⟩, rfl, fun h => (by first | rfl | (cases h)), by simp [ti25, Value.oneCell'], ⟨_, Tryd.underlying25, ⟨_, rfl⟩⟩⟩
def ti34 : TI := ⟨.st [(0, 22), (1, 23), (2, 23), (3, 3)], 4, 80, [(.slice .none 0 0), (.slice .none 0 0), (.slice .none 0 0), (.int .i64 0)]⟩
theorem ti34_ok : ti34.ok Tryd.prog 34 := ⟨⟨Tryd.t34, _, by kernel_rfl, rfl, rfl, rfl, rfl⟩, rfl, fun h => (by first | rfl | (cases h)), by simp [ti34, Value.oneCell'], ⟨_, Tryd.underlying34, ⟨_, rfl, rfl⟩⟩⟩
def ti57 : TI := ⟨.st [(0, 54), (1, 55)], 2, 32, [(.pointer .none), (.slice .none 0 0)]⟩
theorem ti57_ok : ti57.ok Tryd.prog 57 := ⟨⟨Tryd.t57, _, by kernel_rfl, rfl, rfl, rfl, rfl⟩, rfl, fun h => (by first | rfl | (cases h)), by simp [ti57, Value.oneCell'], ⟨_, Tryd.underlying57, ⟨_, rfl, rfl⟩⟩⟩
def ti54 : TI := ⟨.sc, 1, 8, [(.pointer .none)]⟩
theorem ti54_ok : ti54.ok Tryd.prog 54 := ⟨⟨Tryd.t54, _, by kernel_rfl, rfl, rfl, rfl, rfl⟩, rfl, fun h => (by first | rfl | (cases h)), by simp [ti54, Value.oneCell'], ⟨_, Tryd.underlying54, trivial⟩⟩
def ti55 : TI := ⟨.sl 5, 1, 24, [(.slice .none 0 0)]⟩
theorem ti55_ok : ti55.ok Tryd.prog 55 := ⟨⟨Tryd.t55, _, by kernel_rfl, rfl, rfl, rfl, rfl⟩, rfl, fun h => (by first | rfl | (cases h)), by simp [ti55, Value.oneCell'], ⟨_, Tryd.underlying55, rfl⟩⟩
def ti5 : TI := ⟨.int .u8, 1, 1, [(.int .u8 0)]⟩
theorem ti5_ok : ti5.ok Tryd.prog 5 := ⟨⟨Tryd.t5, _, by kernel_rfl, rfl, rfl, rfl, rfl⟩, rfl, fun h => (by first | rfl | (cases h)), by simp [ti5, Value.oneCell'], ⟨_, Tryd.underlying5, rfl⟩⟩
def ti63 : TI := ⟨.int .i64, 1, 8, [(.int .i64 0)]⟩
theorem ti63_ok : ti63.ok Tryd.prog 63 := ⟨⟨Tryd.t63, _, by kernel_rfl, rfl, rfl, rfl, rfl⟩, rfl, fun h => (by first | rfl | (cases h)), by simp [ti63, Value.oneCell'], ⟨_, Tryd.underlying63, rfl⟩⟩
def ti65 : TI := ⟨.sc, 1, 8, [(.pointer .none)]⟩
theorem ti65_ok : ti65.ok Tryd.prog 65 := ⟨⟨Tryd.t65, _, by kernel_rfl, rfl, rfl, rfl, rfl⟩, rfl, fun h => (by first | rfl | (cases h)), by simp [ti65, Value.oneCell'], ⟨_, Tryd.underlying65, trivial⟩⟩
def ti20 : TI := ⟨.ifc, 1, 16, [.nilIface]⟩
theorem ti20_ok : ti20.ok Tryd.prog 20 := ⟨⟨Tryd.t20, _, by kernel_rfl, rfl, rfl, rfl, rfl⟩, rfl, fun h => (by first | rfl | (cases h)), by simp [ti20, Value.oneCell'], ⟨_, Tryd.underlying20, ⟨_, rfl⟩⟩⟩
def ti69 : TI := ⟨.sl 98, 1, 24, [(.slice .none 0 0)]⟩
theorem ti69_ok : ti69.ok Tryd.prog 69 := ⟨⟨Tryd.t69, _, by kernel_rfl, rfl, rfl, rfl, rfl⟩, rfl, fun h => (by first | rfl | (cases h)), by simp [ti69, Value.oneCell'], ⟨_, Tryd.underlying69, rfl⟩⟩
def ti98 : TI := ⟨.arr 2 3, 2, 16, [(.int .i64 0), (.int .i64 0)]⟩
theorem ti98_ok : ti98.ok Tryd.prog 98 := ⟨⟨Tryd.t98, _, by kernel_rfl, rfl, rfl, rfl, rfl⟩, rfl, fun h => (by first | rfl | (cases h)), by simp [ti98, Value.oneCell'], ⟨_, Tryd.underlying98, rfl⟩⟩
def ti74 : TI := ⟨.st [(0, 57), (2, 3), (3, 3)], 4, 48, [(.pointer .none), (.slice .none 0 0), (.int .i64 0), (.int .i64 0)]⟩
theorem ti74_ok : ti74.ok Tryd.prog 74 := ⟨⟨Tryd.t74, _, by kernel_rfl, rfl, rfl, rfl, rfl⟩, rfl, fun h => (by first | rfl | (cases h)), by simp [ti74, Value.oneCell'], ⟨_, Tryd.underlying74, ⟨_, rfl, rfl⟩⟩⟩
def ti72 : TI := ⟨.sc, 1, 8, [(.pointer .none)]⟩
theorem ti72_ok : ti72.ok Tryd.prog 72 := ⟨⟨Tryd.t72, _, by kernel_rfl, rfl, rfl, rfl, rfl⟩, rfl, fun h => (by first | rfl | (cases h)), by simp [ti72, Value.oneCell'], ⟨_, Tryd.underlying72, trivial⟩⟩
def ti84 : TI := ⟨.sc, 1, 8, [(.pointer .none)]⟩
theorem ti84_ok : ti84.ok Tryd.prog 84 := ⟨⟨Tryd.t84, _, by kernel_rfl, rfl, rfl, rfl, rfl⟩, rfl, fun h => (by first | rfl | (cases h)), by simp [ti84, Value.oneCell'], ⟨_, Tryd.underlying84, trivial⟩⟩
def ti88 : TI := ⟨.st [(0, 17), (1, 85), (2, 86)], 3, 24, [(.pointer .none), (.pointer .none), (.int .u64 0)]⟩
theorem ti88_ok : ti88.ok Tryd.prog 88 := ⟨⟨Tryd.t88, _, by kernel_rfl, rfl, rfl, rfl, rfl⟩, rfl, fun h => (by first | rfl | (cases h)), by simp [ti88, Value.oneCell'], ⟨_, Tryd.underlying88, ⟨_, rfl, rfl⟩⟩⟩
def ti17 : TI := ⟨.sc, 1, 8, [(.pointer .none)]⟩
theorem ti17_ok : ti17.ok Tryd.prog 17 := ⟨⟨Tryd.t17, _, by kernel_rfl, rfl, rfl, rfl, rfl⟩, rfl, fun h => (by first | rfl | (cases h)), by simp [ti17, Value.oneCell'], ⟨_, Tryd.underlying17, trivial⟩⟩
def ti85 : TI := ⟨.sc, 1, 8, [(.pointer .none)]⟩
theorem ti85_ok : ti85.ok Tryd.prog 85 := ⟨⟨Tryd.t85, _, by kernel_rfl, rfl, rfl, rfl, rfl⟩, rfl, fun h => (by first | rfl | (cases h)), by simp [ti85, Value.oneCell'], ⟨_, Tryd.underlying85, trivial⟩⟩
def ti86 : TI := ⟨.int .u64, 1, 8, [(.int .u64 0)]⟩
theorem ti86_ok : ti86.ok Tryd.prog 86 := ⟨⟨Tryd.t86, _, by kernel_rfl, rfl, rfl, rfl, rfl⟩, rfl, fun h => (by first | rfl | (cases h)), by simp [ti86, Value.oneCell'], ⟨_, Tryd.underlying86, rfl⟩⟩
def ti93 : TI := ⟨.int .u8, 1, 1, [(.int .u8 0)]⟩
theorem ti93_ok : ti93.ok Tryd.prog 93 := ⟨⟨Tryd.t93, _, by kernel_rfl, rfl, rfl, rfl, rfl⟩, rfl, fun h => (by first | rfl | (cases h)), by simp [ti93, Value.oneCell'], ⟨_, Tryd.underlying93, rfl⟩⟩
def ti91 : TI := ⟨.ifc, 1, 16, [.nilIface]⟩
theorem ti91_ok : ti91.ok Tryd.prog 91 := ⟨⟨Tryd.t91, _, by kernel_rfl, rfl, rfl, rfl, rfl⟩, rfl, fun h => (by first | rfl | (cases h)), by simp [ti91, Value.oneCell'], ⟨_, Tryd.underlying91, ⟨_, rfl⟩⟩⟩
def ti100 : TI := ⟨.int .u64, 1, 8, [(.int .u64 0)]⟩
theorem ti100_ok : ti100.ok Tryd.prog 100 := ⟨⟨Tryd.t100, _, by kernel_rfl, rfl, rfl, rfl, rfl⟩, rfl, fun h => (by first | rfl | (cases h)), by simp [ti100, Value.oneCell'], ⟨_, Tryd.underlying100, rfl⟩⟩
def tab : Tab := [(22, ⟨.sl 39, 1, 24, [(.slice .none 0 0)]⟩), (39, ⟨.st [(0, 3), (1, 3), (2, 3), (3, 3)], 4, 32, [(.int .i64 0), (.int .i64 0), (.int .i64 0), (.int .i64 0)]⟩), (3, ⟨.int .i64, 1, 8, [(.int .i64 0)]⟩), (23, ⟨.sl 9, 1, 24, [(.slice .none 0 0)]⟩), (9, ⟨.str, 1, 16, [(.string ⟨#[]⟩)]⟩), (25, ⟨.ifc, 1, 16, [.nilIface]⟩), (34, ⟨.st [(0, 22), (1, 23), (2, 23), (3, 3)], 4, 80, [(.slice .none 0 0), (.slice .none 0 0), (.slice .none 0 0), (.int .i64 0)]⟩), (57, ⟨.st [(0, 54), (1, 55)], 2, 32, [(.pointer .none), (.slice .none 0 0)]⟩), (54, ⟨.sc, 1, 8, [(.pointer .none)]⟩), (55, ⟨.sl 5, 1, 24, [(.slice .none 0 0)]⟩), (5, ⟨.int .u8, 1, 1, [(.int .u8 0)]⟩), (63, ⟨.int .i64, 1, 8, [(.int .i64 0)]⟩), (65, ⟨.sc, 1, 8, [(.pointer .none)]⟩), (20, ⟨.ifc, 1, 16, [.nilIface]⟩), (69, ⟨.sl 98, 1, 24, [(.slice .none 0 0)]⟩), (98, ⟨.arr 2 3, 2, 16, [(.int .i64 0), (.int .i64 0)]⟩), (74, ⟨.st [(0, 57), (2, 3), (3, 3)], 4, 48, [(.pointer .none), (.slice .none 0 0), (.int .i64 0), (.int .i64 0)]⟩), (72, ⟨.sc, 1, 8, [(.pointer .none)]⟩), (84, ⟨.sc, 1, 8, [(.pointer .none)]⟩), (88, ⟨.st [(0, 17), (1, 85), (2, 86)], 3, 24, [(.pointer .none), (.pointer .none), (.int .u64 0)]⟩), (17, ⟨.sc, 1, 8, [(.pointer .none)]⟩), (85, ⟨.sc, 1, 8, [(.pointer .none)]⟩), (86, ⟨.int .u64, 1, 8, [(.int .u64 0)]⟩), (93, ⟨.int .u8, 1, 1, [(.int .u8 0)]⟩), (91, ⟨.ifc, 1, 16, [.nilIface]⟩), (100, ⟨.int .u64, 1, 8, [(.int .u64 0)]⟩)]
theorem tab_ok : Tab.ok Tryd.prog tab := by
  intro t i h
  simp only [tab] at h
  rcases tget_cons h with ⟨rfl, rfl⟩ | h
  · exact ti22_ok
  rcases tget_cons h with ⟨rfl, rfl⟩ | h
  · exact ti39_ok
  rcases tget_cons h with ⟨rfl, rfl⟩ | h
  · exact ti3_ok
  rcases tget_cons h with ⟨rfl, rfl⟩ | h
  · exact ti23_ok
  rcases tget_cons h with ⟨rfl, rfl⟩ | h
  · exact ti9_ok
  rcases tget_cons h with ⟨rfl, rfl⟩ | h
  · exact ti25_ok
  rcases tget_cons h with ⟨rfl, rfl⟩ | h
  · exact ti34_ok
  rcases tget_cons h with ⟨rfl, rfl⟩ | h
  · exact ti57_ok
  rcases tget_cons h with ⟨rfl, rfl⟩ | h
  · exact ti54_ok
  rcases tget_cons h with ⟨rfl, rfl⟩ | h
  · exact ti55_ok
  rcases tget_cons h with ⟨rfl, rfl⟩ | h
  · exact ti5_ok
  rcases tget_cons h with ⟨rfl, rfl⟩ | h
  · exact ti63_ok
  rcases tget_cons h with ⟨rfl, rfl⟩ | h
  · exact ti65_ok
  rcases tget_cons h with ⟨rfl, rfl⟩ | h
  · exact ti20_ok
  rcases tget_cons h with ⟨rfl, rfl⟩ | h
  · exact ti69_ok
  rcases tget_cons h with ⟨rfl, rfl⟩ | h
  · exact ti98_ok
  rcases tget_cons h with ⟨rfl, rfl⟩ | h
  · exact ti74_ok
  rcases tget_cons h with ⟨rfl, rfl⟩ | h
  · exact ti72_ok
  rcases tget_cons h with ⟨rfl, rfl⟩ | h
  · exact ti84_ok
  rcases tget_cons h with ⟨rfl, rfl⟩ | h
  · exact ti88_ok
  rcases tget_cons h with ⟨rfl, rfl⟩ | h
  · exact ti17_ok
  rcases tget_cons h with ⟨rfl, rfl⟩ | h
  · exact ti85_ok
  rcases tget_cons h with ⟨rfl, rfl⟩ | h
  · exact ti86_ok
  rcases tget_cons h with ⟨rfl, rfl⟩ | h
  · exact ti93_ok
  rcases tget_cons h with ⟨rfl, rfl⟩ | h
  · exact ti91_ok
  rcases tget_cons h with ⟨rfl, rfl⟩ | h
  · exact ti100_ok
  cases h
theorem mix : Tryd.prog.follows .mixedOrders = true := by kernel_rfl
end Go.Proofs.YtjlobgcmhnkgnaaDoor
