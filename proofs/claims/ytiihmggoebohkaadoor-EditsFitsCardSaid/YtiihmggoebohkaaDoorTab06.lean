/- The table of types. Printed by irp.py. -/
import Derived.Test.YtiihmggoebohkaaDoorVc22
import Derived.Test.YtiihmggoebohkaaDoorProg
import Derived.KernelRfl
namespace Go.Proofs.YtiihmggoebohkaaDoor
open Go Vc
def ti22 : TI := ⟨.sl 48, 1, 24, [(.slice .none 0 0)]⟩
theorem ti22_ok : ti22.ok Tryd.prog 22 := ⟨⟨Tryd.t22, _, by kernel_rfl, rfl, rfl, rfl, rfl⟩, rfl, fun h => (by first | rfl | (cases h)), by simp [ti22, Value.oneCell'], ⟨_, Tryd.underlying22, rfl⟩⟩
def ti48 : TI := ⟨.st [(0, 3), (1, 3), (2, 3), (3, 3)], 4, 32, [(.int .i64 0), (.int .i64 0), (.int .i64 0), (.int .i64 0)]⟩
theorem ti48_ok : ti48.ok Tryd.prog 48 := ⟨⟨Tryd.t48, _, by kernel_rfl, rfl, rfl, rfl, rfl⟩, rfl, fun h => (by first | rfl | (cases h)), by simp [ti48, Value.oneCell'], ⟨_, Tryd.underlying48, ⟨_, rfl, rfl⟩⟩⟩
def ti3 : TI := ⟨.int .i64, 1, 8, [(.int .i64 0)]⟩
theorem ti3_ok : ti3.ok Tryd.prog 3 := ⟨⟨Tryd.t3, _, by kernel_rfl, rfl, rfl, rfl, rfl⟩, rfl, fun h => (by first | rfl | (cases h)), by simp [ti3, Value.oneCell'], ⟨_, Tryd.underlying3, rfl⟩⟩
def ti27 : TI := ⟨.ifc, 1, 16, [.nilIface]⟩
theorem ti27_ok : ti27.ok Tryd.prog 27 := ⟨⟨Tryd.t27, _, by kernel_rfl, rfl, rfl, rfl, rfl⟩, rfl, fun h => (by first | rfl | (cases h)), by simp [ti27, Value.oneCell'], ⟨_, Tryd.underlying27, ⟨_, rfl⟩⟩⟩
def ti32 : TI := ⟨.sl 49, 1, 24, [(.slice .none 0 0)]⟩
theorem ti32_ok : ti32.ok Tryd.prog 32 := ⟨⟨Tryd.t32, _, by kernel_rfl, rfl, rfl, rfl, rfl⟩, rfl, fun h => (by first | rfl | (cases h)), by simp [ti32, Value.oneCell'], ⟨_, Tryd.underlying32, rfl⟩⟩
def ti49 : TI := ⟨.arr 2 3, 2, 16, [(.int .i64 0), (.int .i64 0)]⟩
theorem ti49_ok : ti49.ok Tryd.prog 49 := ⟨⟨Tryd.t49, _, by kernel_rfl, rfl, rfl, rfl, rfl⟩, rfl, fun h => (by first | rfl | (cases h)), by simp [ti49, Value.oneCell'], ⟨_, Tryd.underlying49, rfl⟩⟩
def ti50 : TI := ⟨.sl 3, 1, 24, [(.slice .none 0 0)]⟩
theorem ti50_ok : ti50.ok Tryd.prog 50 := ⟨⟨Tryd.t50, _, by kernel_rfl, rfl, rfl, rfl, rfl⟩, rfl, fun h => (by first | rfl | (cases h)), by simp [ti50, Value.oneCell'], ⟨_, Tryd.underlying50, rfl⟩⟩
def ti60 : TI := ⟨.st [(0, 22), (1, 22), (2, 3), (3, 3), (4, 3)], 5, 72, [(.slice .none 0 0), (.slice .none 0 0), (.int .i64 0), (.int .i64 0), (.int .i64 0)]⟩
theorem ti60_ok : ti60.ok Tryd.prog 60 := ⟨⟨Tryd.t60, _, by kernel_rfl, rfl, rfl, rfl, rfl⟩, rfl, fun h => (by first | rfl | (cases h)), by simp [ti60, Value.oneCell'], ⟨_, Tryd.underlying60, ⟨_, rfl, rfl⟩⟩⟩
def ti65 : TI := ⟨.st [(0, 22), (1, 22), (2, 22), (3, 3), (4, 3), (5, 3), (6, 3)], 7, 104, [(.slice .none 0 0), (.slice .none 0 0), (.slice .none 0 0), (.int .i64 0), (.int .i64 0), (.int .i64 0), (.int .i64 0)]⟩
theorem ti65_ok : ti65.ok Tryd.prog 65 := ⟨⟨Tryd.t65, _, by kernel_rfl, rfl, rfl, rfl, rfl⟩, rfl, fun h => (by first | rfl | (cases h)), by simp [ti65, Value.oneCell'], ⟨_, Tryd.underlying65, ⟨_, rfl, rfl⟩⟩⟩
def ti68 : TI := ⟨.st [(0, 50), (1, 50), (2, 50), (3, 32), (4, 32)], 5, 120, [(.slice .none 0 0), (.slice .none 0 0), (.slice .none 0 0), (.slice .none 0 0), (.slice .none 0 0)]⟩
theorem ti68_ok : ti68.ok Tryd.prog 68 := ⟨⟨Tryd.t68, _, by kernel_rfl, rfl, rfl, rfl, rfl⟩, rfl, fun h => (by first | rfl | (cases h)), by simp [ti68, Value.oneCell'], ⟨_, Tryd.underlying68, ⟨_, rfl, rfl⟩⟩⟩
def ti72 : TI := ⟨.st [(0, 22), (1, 50), (2, 50), (3, 3), (4, 3)], 5, 88, [(.slice .none 0 0), (.slice .none 0 0), (.slice .none 0 0), (.int .i64 0), (.int .i64 0)]⟩
theorem ti72_ok : ti72.ok Tryd.prog 72 := ⟨⟨Tryd.t72, _, by kernel_rfl, rfl, rfl, rfl, rfl⟩, rfl, fun h => (by first | rfl | (cases h)), by simp [ti72, Value.oneCell'], ⟨_, Tryd.underlying72, ⟨_, rfl, rfl⟩⟩⟩
def ti73 : TI := ⟨.sl 81, 1, 24, [(.slice .none 0 0)]⟩
theorem ti73_ok : ti73.ok Tryd.prog 73 := ⟨⟨Tryd.t73, _, by kernel_rfl, rfl, rfl, rfl, rfl⟩, rfl, fun h => (by first | rfl | (cases h)), by simp [ti73, Value.oneCell'], ⟨_, Tryd.underlying73, rfl⟩⟩
def ti81 : TI := ⟨.st [(0, 3), (1, 3), (2, 3)], 3, 24, [(.int .i64 0), (.int .i64 0), (.int .i64 0)]⟩
theorem ti81_ok : ti81.ok Tryd.prog 81 := ⟨⟨Tryd.t81, _, by kernel_rfl, rfl, rfl, rfl, rfl⟩, rfl, fun h => (by first | rfl | (cases h)), by simp [ti81, Value.oneCell'], ⟨_, Tryd.underlying81, ⟨_, rfl, rfl⟩⟩⟩
def ti76 : TI := ⟨.sl 80, 1, 24, [(.slice .none 0 0)]⟩
theorem ti76_ok : ti76.ok Tryd.prog 76 := ⟨⟨Tryd.t76, _, by kernel_rfl, rfl, rfl, rfl, rfl⟩, rfl, fun h => (by first | rfl | (cases h)), by simp [ti76, Value.oneCell'], ⟨_, Tryd.underlying76, rfl⟩⟩
def ti80 : TI := ⟨.st [(0, 3), (1, 3), (2, 3)], 3, 24, [(.int .i64 0), (.int .i64 0), (.int .i64 0)]⟩
theorem ti80_ok : ti80.ok Tryd.prog 80 := ⟨⟨Tryd.t80, _, by kernel_rfl, rfl, rfl, rfl, rfl⟩, rfl, fun h => (by first | rfl | (cases h)), by simp [ti80, Value.oneCell'], ⟨_, Tryd.underlying80, ⟨_, rfl, rfl⟩⟩⟩
def ti83 : TI := ⟨.sl 4, 1, 24, [(.slice .none 0 0)]⟩
theorem ti83_ok : ti83.ok Tryd.prog 83 := ⟨⟨Tryd.t83, _, by kernel_rfl, rfl, rfl, rfl, rfl⟩, rfl, fun h => (by first | rfl | (cases h)), by simp [ti83, Value.oneCell'], ⟨_, Tryd.underlying83, rfl⟩⟩
def ti4 : TI := ⟨.sc, 1, 1, [(.bool .false)]⟩
theorem ti4_ok : ti4.ok Tryd.prog 4 := ⟨⟨Tryd.t4, _, by kernel_rfl, rfl, rfl, rfl, rfl⟩, rfl, fun h => (by first | rfl | (cases h)), by simp [ti4, Value.oneCell'], ⟨_, Tryd.underlying4, trivial⟩⟩
def ti84 : TI := ⟨.int .i64, 1, 8, [(.int .i64 0)]⟩
theorem ti84_ok : ti84.ok Tryd.prog 84 := ⟨⟨Tryd.t84, _, by kernel_rfl, rfl, rfl, rfl, rfl⟩, rfl, fun h => (by first | rfl | (cases h)), by simp [ti84, Value.oneCell'], ⟨_, Tryd.underlying84, rfl⟩⟩
def ti86 : TI := ⟨.sc, 1, 8, [(.pointer .none)]⟩
theorem ti86_ok : ti86.ok Tryd.prog 86 := ⟨⟨Tryd.t86, _, by kernel_rfl, rfl, rfl, rfl, rfl⟩, rfl, fun h => (by first | rfl | (cases h)), by simp [ti86, Value.oneCell'], ⟨_, Tryd.underlying86, trivial⟩⟩
def ti20 : TI := ⟨.ifc, 1, 16, [.nilIface]⟩
theorem ti20_ok : ti20.ok Tryd.prog 20 := ⟨⟨Tryd.t20, _, by kernel_rfl, rfl, rfl, rfl, rfl⟩, rfl, fun h => (by first | rfl | (cases h)), by simp [ti20, Value.oneCell'], ⟨_, Tryd.underlying20, ⟨_, rfl⟩⟩⟩
def ti90 : TI := ⟨.sc, 1, 8, [.nilFunc]⟩
theorem ti90_ok : ti90.ok Tryd.prog 90 := ⟨⟨Tryd.t90, _, by kernel_rfl, rfl, rfl, rfl, rfl⟩, rfl, fun h => (by first | rfl | (cases h)), by simp [ti90, Value.oneCell'], ⟨_, Tryd.underlying90, trivial⟩⟩
def ti92 : TI := ⟨.sc, 1, 8, [.nilFunc]⟩
theorem ti92_ok : ti92.ok Tryd.prog 92 := ⟨⟨Tryd.t92, _, by kernel_rfl, rfl, rfl, rfl, rfl⟩, rfl, fun h => (by first | rfl | (cases h)), by simp [ti92, Value.oneCell'], ⟨_, Tryd.underlying92, trivial⟩⟩
def ti95 : TI := ⟨.sc, 1, 8, [.nilFunc]⟩
theorem ti95_ok : ti95.ok Tryd.prog 95 := ⟨⟨Tryd.t95, _, by kernel_rfl, rfl, rfl, rfl, rfl⟩, rfl, fun h => (by first | rfl | (cases h)), by simp [ti95, Value.oneCell'], ⟨_, Tryd.underlying95, trivial⟩⟩
def tab : Tab := [(22, ⟨.sl 48, 1, 24, [(.slice .none 0 0)]⟩), (48, ⟨.st [(0, 3), (1, 3), (2, 3), (3, 3)], 4, 32, [(.int .i64 0), (.int .i64 0), (.int .i64 0), (.int .i64 0)]⟩), (3, ⟨.int .i64, 1, 8, [(.int .i64 0)]⟩), (27, ⟨.ifc, 1, 16, [.nilIface]⟩), (32, ⟨.sl 49, 1, 24, [(.slice .none 0 0)]⟩), (49, ⟨.arr 2 3, 2, 16, [(.int .i64 0), (.int .i64 0)]⟩), (50, ⟨.sl 3, 1, 24, [(.slice .none 0 0)]⟩), (60, ⟨.st [(0, 22), (1, 22), (2, 3), (3, 3), (4, 3)], 5, 72, [(.slice .none 0 0), (.slice .none 0 0), (.int .i64 0), (.int .i64 0), (.int .i64 0)]⟩), (65, ⟨.st [(0, 22), (1, 22), (2, 22), (3, 3), (4, 3), (5, 3), (6, 3)], 7, 104, [(.slice .none 0 0), (.slice .none 0 0), (.slice .none 0 0), (.int .i64 0), (.int .i64 0), (.int .i64 0), (.int .i64 0)]⟩), (68, ⟨.st [(0, 50), (1, 50), (2, 50), (3, 32), (4, 32)], 5, 120, [(.slice .none 0 0), (.slice .none 0 0), (.slice .none 0 0), (.slice .none 0 0), (.slice .none 0 0)]⟩), (72, ⟨.st [(0, 22), (1, 50), (2, 50), (3, 3), (4, 3)], 5, 88, [(.slice .none 0 0), (.slice .none 0 0), (.slice .none 0 0), (.int .i64 0), (.int .i64 0)]⟩), (73, ⟨.sl 81, 1, 24, [(.slice .none 0 0)]⟩), (81, ⟨.st [(0, 3), (1, 3), (2, 3)], 3, 24, [(.int .i64 0), (.int .i64 0), (.int .i64 0)]⟩), (76, ⟨.sl 80, 1, 24, [(.slice .none 0 0)]⟩), (80, ⟨.st [(0, 3), (1, 3), (2, 3)], 3, 24, [(.int .i64 0), (.int .i64 0), (.int .i64 0)]⟩), (83, ⟨.sl 4, 1, 24, [(.slice .none 0 0)]⟩), (4, ⟨.sc, 1, 1, [(.bool .false)]⟩), (84, ⟨.int .i64, 1, 8, [(.int .i64 0)]⟩), (86, ⟨.sc, 1, 8, [(.pointer .none)]⟩), (20, ⟨.ifc, 1, 16, [.nilIface]⟩), (90, ⟨.sc, 1, 8, [.nilFunc]⟩), (92, ⟨.sc, 1, 8, [.nilFunc]⟩), (95, ⟨.sc, 1, 8, [.nilFunc]⟩)]
theorem tab_ok : Tab.ok Tryd.prog tab := by
  intro t i h
  simp only [tab] at h
  rcases tget_cons h with ⟨rfl, rfl⟩ | h
  · exact ti22_ok
  rcases tget_cons h with ⟨rfl, rfl⟩ | h
  · exact ti48_ok
  rcases tget_cons h with ⟨rfl, rfl⟩ | h
  · exact ti3_ok
  rcases tget_cons h with ⟨rfl, rfl⟩ | h
  · exact ti27_ok
  rcases tget_cons h with ⟨rfl, rfl⟩ | h
  · exact ti32_ok
  rcases tget_cons h with ⟨rfl, rfl⟩ | h
  · exact ti49_ok
  rcases tget_cons h with ⟨rfl, rfl⟩ | h
  · exact ti50_ok
  rcases tget_cons h with ⟨rfl, rfl⟩ | h
  · exact ti60_ok
  rcases tget_cons h with ⟨rfl, rfl⟩ | h
  · exact ti65_ok
  rcases tget_cons h with ⟨rfl, rfl⟩ | h
  · exact ti68_ok
  rcases tget_cons h with ⟨rfl, rfl⟩ | h
  · exact ti72_ok
  rcases tget_cons h with ⟨rfl, rfl⟩ | h
  · exact ti73_ok
  rcases tget_cons h with ⟨rfl, rfl⟩ | h
  · exact ti81_ok
  rcases tget_cons h with ⟨rfl, rfl⟩ | h
  · exact ti76_ok
  rcases tget_cons h with ⟨rfl, rfl⟩ | h
  · exact ti80_ok
  rcases tget_cons h with ⟨rfl, rfl⟩ | h
  · exact ti83_ok
  rcases tget_cons h with ⟨rfl, rfl⟩ | h
  · exact ti4_ok
  rcases tget_cons h with ⟨rfl, rfl⟩ | h
  · exact ti84_ok
  rcases tget_cons h with ⟨rfl, rfl⟩ | h
  · exact ti86_ok
  rcases tget_cons h with ⟨rfl, rfl⟩ | h
  · exact ti20_ok
  rcases tget_cons h with ⟨rfl, rfl⟩ | h
  · exact ti90_ok
  rcases tget_cons h with ⟨rfl, rfl⟩ | h
  · exact ti92_ok
  rcases tget_cons h with ⟨rfl, rfl⟩ | h
  · exact ti95_ok
  cases h
theorem mix : Tryd.prog.follows .mixedOrders = true := by kernel_rfl
end Go.Proofs.YtiihmggoebohkaaDoor
