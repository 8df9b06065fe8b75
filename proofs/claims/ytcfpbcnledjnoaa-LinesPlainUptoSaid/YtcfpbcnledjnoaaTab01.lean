/- The table of types. Printed by irp.py. -/
import Derived.Test.YtcfpbcnledjnoaaVc22
import Derived.Test.YtcfpbcnledjnoaaProg
import Derived.KernelRfl
namespace Go.Proofs.Ytcfpbcnledjnoaa
open Go Vc
def ti9 : TI := ⟨.str, 1, 16, [(.string ⟨#[]⟩)]⟩
theorem ti9_ok : ti9.ok Try.prog 9 := ⟨⟨Try.t9, _, by kernel_rfl, rfl, rfl, rfl, rfl⟩, rfl, fun h => (by first | rfl | (cases h)), by simp [ti9, Value.oneCell'], ⟨_, Try.underlying9, rfl⟩⟩
def ti23 : TI := ⟨.sl 9, 1, 24, [(.slice .none 0 0)]⟩
theorem ti23_ok : ti23.ok Try.prog 23 := ⟨⟨Try.t23, _, by kernel_rfl, rfl, rfl, rfl, rfl⟩, rfl, fun h => (by first | rfl | (cases h)), by simp [ti23, Value.oneCell'], ⟨_, Try.underlying23, rfl⟩⟩
def ti3 : TI := ⟨.int .i64, 1, 8, [(.int .i64 0)]⟩
theorem ti3_ok : ti3.ok Try.prog 3 := ⟨⟨Try.t3, _, by kernel_rfl, rfl, rfl, rfl, rfl⟩, rfl, fun h => (by first | rfl | (cases h)), by simp [ti3, Value.oneCell'], ⟨_, Try.underlying3, rfl⟩⟩
def ti4 : TI := ⟨.sc, 1, 1, [(.bool .false)]⟩
theorem ti4_ok : ti4.ok Try.prog 4 := ⟨⟨Try.t4, _, by kernel_rfl, rfl, rfl, rfl, rfl⟩, rfl, fun h => (by first | rfl | (cases h)), by simp [ti4, Value.oneCell'], ⟨_, Try.underlying4, trivial⟩⟩
def ti5 : TI := ⟨.int .u8, 1, 1, [(.int .u8 0)]⟩
theorem ti5_ok : ti5.ok Try.prog 5 := ⟨⟨Try.t5, _, by kernel_rfl, rfl, rfl, rfl, rfl⟩, rfl, fun h => (by first | rfl | (cases h)), by simp [ti5, Value.oneCell'], ⟨_, Try.underlying5, rfl⟩⟩
def ti36 : TI := ⟨.ifc, 1, 16, [.nilIface]⟩
theorem ti36_ok : ti36.ok Try.prog 36 := ⟨⟨Try.t36, _, by kernel_rfl, rfl, rfl, rfl, rfl⟩, rfl, fun h => (by first | rfl | (cases h)), by simp [ti36, Value.oneCell'], ⟨_, Try.underlying36, ⟨_, rfl⟩⟩⟩
def ti42 : TI := ⟨.sl 5, 1, 24, [(.slice .none 0 0)]⟩
theorem ti42_ok : ti42.ok Try.prog 42 := ⟨⟨Try.t42, _, by kernel_rfl, rfl, rfl, rfl, rfl⟩, rfl, fun h => (by first | rfl | (cases h)), by simp [ti42, Value.oneCell'], ⟨_, Try.underlying42, rfl⟩⟩
def ti45 : TI := ⟨.int .i64, 1, 8, [(.int .i64 0)]⟩
theorem ti45_ok : ti45.ok Try.prog 45 := ⟨⟨Try.t45, _, by kernel_rfl, rfl, rfl, rfl, rfl⟩, rfl, fun h => (by first | rfl | (cases h)), by simp [ti45, Value.oneCell'], ⟨_, Try.underlying45, rfl⟩⟩
def ti48 : TI := ⟨.st [(0, 46), (1, 42)], 2, 32, [(.pointer .none), (.slice .none 0 0)]⟩
theorem ti48_ok : ti48.ok Try.prog 48 := ⟨⟨Try.t48, _, by kernel_rfl, rfl, rfl, rfl, rfl⟩, rfl, fun h => (by first | rfl | (cases h)), by simp [ti48, Value.oneCell'], ⟨_, Try.underlying48, ⟨_, rfl, rfl⟩⟩⟩
def ti46 : TI := ⟨.sc, 1, 8, [(.pointer .none)]⟩
theorem ti46_ok : ti46.ok Try.prog 46 := ⟨⟨Try.t46, _, by kernel_rfl, rfl, rfl, rfl, rfl⟩, rfl, fun h => (by first | rfl | (cases h)), by simp [ti46, Value.oneCell'], ⟨_, Try.underlying46, trivial⟩⟩
def ti59 : TI := ⟨.sc, 1, 8, [(.pointer .none)]⟩
theorem ti59_ok : ti59.ok Try.prog 59 := ⟨⟨Try.t59, _, by kernel_rfl, rfl, rfl, rfl, rfl⟩, rfl, fun h => (by first | rfl | (cases h)), by simp [ti59, Value.oneCell'], ⟨_, Try.underlying59, trivial⟩⟩
def ti60 : TI := ⟨.sc, 1, 8, [(.pointer .none)]⟩
theorem ti60_ok : ti60.ok Try.prog 60 := ⟨⟨Try.t60, _, by kernel_rfl, rfl, rfl, rfl, rfl⟩, rfl, fun h => (by first | rfl | (cases h)), by simp [ti60, Value.oneCell'], ⟨_, Try.underlying60, trivial⟩⟩
def tab : Tab := [(9, ⟨.str, 1, 16, [(.string ⟨#[]⟩)]⟩), (23, ⟨.sl 9, 1, 24, [(.slice .none 0 0)]⟩), (3, ⟨.int .i64, 1, 8, [(.int .i64 0)]⟩), (4, ⟨.sc, 1, 1, [(.bool .false)]⟩), (5, ⟨.int .u8, 1, 1, [(.int .u8 0)]⟩), (36, ⟨.ifc, 1, 16, [.nilIface]⟩), (42, ⟨.sl 5, 1, 24, [(.slice .none 0 0)]⟩), (45, ⟨.int .i64, 1, 8, [(.int .i64 0)]⟩), (48, ⟨.st [(0, 46), (1, 42)], 2, 32, [(.pointer .none), (.slice .none 0 0)]⟩), (46, ⟨.sc, 1, 8, [(.pointer .none)]⟩), (59, ⟨.sc, 1, 8, [(.pointer .none)]⟩), (60, ⟨.sc, 1, 8, [(.pointer .none)]⟩)]
theorem tab_ok : Tab.ok Try.prog tab := by
  intro t i h
  simp only [tab] at h
  rcases tget_cons h with ⟨rfl, rfl⟩ | h
  · exact ti9_ok
  rcases tget_cons h with ⟨rfl, rfl⟩ | h
  · exact ti23_ok
  rcases tget_cons h with ⟨rfl, rfl⟩ | h
  · exact ti3_ok
  rcases tget_cons h with ⟨rfl, rfl⟩ | h
  · exact ti4_ok
  rcases tget_cons h with ⟨rfl, rfl⟩ | h
  · exact ti5_ok
  rcases tget_cons h with ⟨rfl, rfl⟩ | h
  · exact ti36_ok
  rcases tget_cons h with ⟨rfl, rfl⟩ | h
  · exact ti42_ok
  rcases tget_cons h with ⟨rfl, rfl⟩ | h
  · exact ti45_ok
  rcases tget_cons h with ⟨rfl, rfl⟩ | h
  · exact ti48_ok
  rcases tget_cons h with ⟨rfl, rfl⟩ | h
  · exact ti46_ok
  rcases tget_cons h with ⟨rfl, rfl⟩ | h
  · exact ti59_ok
  rcases tget_cons h with ⟨rfl, rfl⟩ | h
  · exact ti60_ok
  cases h
theorem mix : Try.prog.follows .mixedOrders = true := by kernel_rfl
end Go.Proofs.Ytcfpbcnledjnoaa
