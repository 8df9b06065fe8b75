/- The table of types. Printed by irp.py. -/
import Derived.Test.YtcfpbcnledjnoaaDoorVc22
import Derived.Test.YtcfpbcnledjnoaaDoorProg
import Derived.KernelRfl
namespace Go.Proofs.YtcfpbcnledjnoaaDoor
open Go Vc
def ti9 : TI := ⟨.str, 1, 16, [(.string ⟨#[]⟩)]⟩
theorem ti9_ok : ti9.ok Tryd.prog 9 := ⟨⟨Tryd.t9, _, by kernel_rfl, rfl, rfl, rfl, rfl⟩, rfl, fun h => (by first | rfl | (cases h)), by simp [ti9, Value.oneCell'], ⟨_, Tryd.underlying9, rfl⟩⟩
def ti3 : TI := ⟨.int .i64, 1, 8, [(.int .i64 0)]⟩
theorem ti3_ok : ti3.ok Tryd.prog 3 := ⟨⟨Tryd.t3, _, by kernel_rfl, rfl, rfl, rfl, rfl⟩, rfl, fun h => (by first | rfl | (cases h)), by simp [ti3, Value.oneCell'], ⟨_, Tryd.underlying3, rfl⟩⟩
def ti23 : TI := ⟨.ifc, 1, 16, [.nilIface]⟩
theorem ti23_ok : ti23.ok Tryd.prog 23 := ⟨⟨Tryd.t23, _, by kernel_rfl, rfl, rfl, rfl, rfl⟩, rfl, fun h => (by first | rfl | (cases h)), by simp [ti23, Value.oneCell'], ⟨_, Tryd.underlying23, ⟨_, rfl⟩⟩⟩
def ti31 : TI := ⟨.int .i64, 1, 8, [(.int .i64 0)]⟩
theorem ti31_ok : ti31.ok Tryd.prog 31 := ⟨⟨Tryd.t31, _, by kernel_rfl, rfl, rfl, rfl, rfl⟩, rfl, fun h => (by first | rfl | (cases h)), by simp [ti31, Value.oneCell'], ⟨_, Tryd.underlying31, rfl⟩⟩
def ti35 : TI := ⟨.st [(0, 32), (1, 33)], 2, 32, [(.pointer .none), (.slice .none 0 0)]⟩
theorem ti35_ok : ti35.ok Tryd.prog 35 := ⟨⟨Tryd.t35, _, by kernel_rfl, rfl, rfl, rfl, rfl⟩, rfl, fun h => (by first | rfl | (cases h)), by simp [ti35, Value.oneCell'], ⟨_, Tryd.underlying35, ⟨_, rfl, rfl⟩⟩⟩
def ti32 : TI := ⟨.sc, 1, 8, [(.pointer .none)]⟩
theorem ti32_ok : ti32.ok Tryd.prog 32 := ⟨⟨Tryd.t32, _, by kernel_rfl, rfl, rfl, rfl, rfl⟩, rfl, fun h => (by first | rfl | (cases h)), by simp [ti32, Value.oneCell'], ⟨_, Tryd.underlying32, trivial⟩⟩
def ti33 : TI := ⟨.sl 5, 1, 24, [(.slice .none 0 0)]⟩
theorem ti33_ok : ti33.ok Tryd.prog 33 := ⟨⟨Tryd.t33, _, by kernel_rfl, rfl, rfl, rfl, rfl⟩, rfl, fun h => (by first | rfl | (cases h)), by simp [ti33, Value.oneCell'], ⟨_, Tryd.underlying33, rfl⟩⟩
def ti5 : TI := ⟨.int .u8, 1, 1, [(.int .u8 0)]⟩
theorem ti5_ok : ti5.ok Tryd.prog 5 := ⟨⟨Tryd.t5, _, by kernel_rfl, rfl, rfl, rfl, rfl⟩, rfl, fun h => (by first | rfl | (cases h)), by simp [ti5, Value.oneCell'], ⟨_, Tryd.underlying5, rfl⟩⟩
def ti44 : TI := ⟨.sl 9, 1, 24, [(.slice .none 0 0)]⟩
theorem ti44_ok : ti44.ok Tryd.prog 44 := ⟨⟨Tryd.t44, _, by kernel_rfl, rfl, rfl, rfl, rfl⟩, rfl, fun h => (by first | rfl | (cases h)), by simp [ti44, Value.oneCell'], ⟨_, Tryd.underlying44, rfl⟩⟩
def ti58 : TI := ⟨.sc, 1, 8, [(.pointer .none)]⟩
theorem ti58_ok : ti58.ok Tryd.prog 58 := ⟨⟨Tryd.t58, _, by kernel_rfl, rfl, rfl, rfl, rfl⟩, rfl, fun h => (by first | rfl | (cases h)), by simp [ti58, Value.oneCell'], ⟨_, Tryd.underlying58, trivial⟩⟩
def ti59 : TI := ⟨.sc, 1, 8, [(.pointer .none)]⟩
theorem ti59_ok : ti59.ok Tryd.prog 59 := ⟨⟨Tryd.t59, _, by kernel_rfl, rfl, rfl, rfl, rfl⟩, rfl, fun h => (by first | rfl | (cases h)), by simp [ti59, Value.oneCell'], ⟨_, Tryd.underlying59, trivial⟩⟩
def tab : Tab := [(9, ⟨.str, 1, 16, [(.string ⟨#[]⟩)]⟩), (3, ⟨.int .i64, 1, 8, [(.int .i64 0)]⟩), (23, ⟨.ifc, 1, 16, [.nilIface]⟩), (31, ⟨.int .i64, 1, 8, [(.int .i64 0)]⟩), (35, ⟨.st [(0, 32), (1, 33)], 2, 32, [(.pointer .none), (.slice .none 0 0)]⟩), (32, ⟨.sc, 1, 8, [(.pointer .none)]⟩), (33, ⟨.sl 5, 1, 24, [(.slice .none 0 0)]⟩), (5, ⟨.int .u8, 1, 1, [(.int .u8 0)]⟩), (44, ⟨.sl 9, 1, 24, [(.slice .none 0 0)]⟩), (58, ⟨.sc, 1, 8, [(.pointer .none)]⟩), (59, ⟨.sc, 1, 8, [(.pointer .none)]⟩)]
theorem tab_ok : Tab.ok Tryd.prog tab := by
  intro t i h
  simp only [tab] at h
  rcases tget_cons h with ⟨rfl, rfl⟩ | h
  · exact ti9_ok
  rcases tget_cons h with ⟨rfl, rfl⟩ | h
  · exact ti3_ok
  rcases tget_cons h with ⟨rfl, rfl⟩ | h
  · exact ti23_ok
  rcases tget_cons h with ⟨rfl, rfl⟩ | h
  · exact ti31_ok
  rcases tget_cons h with ⟨rfl, rfl⟩ | h
  · exact ti35_ok
  rcases tget_cons h with ⟨rfl, rfl⟩ | h
  · exact ti32_ok
  rcases tget_cons h with ⟨rfl, rfl⟩ | h
  · exact ti33_ok
  rcases tget_cons h with ⟨rfl, rfl⟩ | h
  · exact ti5_ok
  rcases tget_cons h with ⟨rfl, rfl⟩ | h
  · exact ti44_ok
  rcases tget_cons h with ⟨rfl, rfl⟩ | h
  · exact ti58_ok
  rcases tget_cons h with ⟨rfl, rfl⟩ | h
  · exact ti59_ok
  cases h
theorem mix : Tryd.prog.follows .mixedOrders = true := by kernel_rfl
end Go.Proofs.YtcfpbcnledjnoaaDoor
