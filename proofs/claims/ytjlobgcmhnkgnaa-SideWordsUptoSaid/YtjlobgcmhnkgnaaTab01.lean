/- The table of types. Printed by irp.py. -/
import Derived.Test.YtjlobgcmhnkgnaaVc22
import Derived.Test.YtjlobgcmhnkgnaaProg
import Derived.KernelRfl
namespace Go.Proofs.Ytjlobgcmhnkgnaa
open Go Vc
def ti9 : TI := ⟨.str, 1, 16, [(.string ⟨#[]⟩)]⟩
theorem ti9_ok : ti9.ok Try.prog 9 := ⟨⟨Try.t9, _, by kernel_rfl, rfl, rfl, rfl, rfl⟩, rfl, fun h => (by first | rfl | (cases h)), by simp [ti9, Value.oneCell'], ⟨_, Try.underlying9, rfl⟩⟩
def ti22 : TI := ⟨.sl 9, 1, 24, [(.slice .none 0 0)]⟩
theorem ti22_ok : ti22.ok Try.prog 22 := ⟨⟨Try.t22, _, by kernel_rfl, rfl, rfl, rfl, rfl⟩, rfl, fun h => (by first | rfl | (cases h)), by simp [ti22, Value.oneCell'], ⟨_, Try.underlying22, rfl⟩⟩
def ti3 : TI := ⟨.int .i64, 1, 8, [(.int .i64 0)]⟩
theorem ti3_ok : ti3.ok Try.prog 3 := ⟨⟨Try.t3, _, by kernel_rfl, rfl, rfl, rfl, rfl⟩, rfl, fun h => (by first | rfl | (cases h)), by simp [ti3, Value.oneCell'], ⟨_, Try.underlying3, rfl⟩⟩
def ti5 : TI := ⟨.int .u8, 1, 1, [(.int .u8 0)]⟩
theorem ti5_ok : ti5.ok Try.prog 5 := ⟨⟨Try.t5, _, by kernel_rfl, rfl, rfl, rfl, rfl⟩, rfl, fun h => (by first | rfl | (cases h)), by simp [ti5, Value.oneCell'], ⟨_, Try.underlying5, rfl⟩⟩
def ti33 : TI := ⟨.st [(0, 3), (1, 3), (2, 3), (3, 3)], 4, 32, [(.int .i64 0), (.int .i64 0), (.int .i64 0), (.int .i64 0)]⟩
theorem ti33_ok : ti33.ok Try.prog 33 := ⟨⟨Try.t33, _, by kernel_rfl, rfl, rfl, rfl, rfl⟩, rfl, fun h => (by first | rfl | (cases h)), by simp [ti33, Value.oneCell'], ⟨_, Try.underlying33, ⟨_, rfl, rfl⟩⟩⟩
def ti34 : TI := ⟨.sl 33, 1, 24, [(.slice .none 0 0)]⟩
theorem ti34_ok : ti34.ok Try.prog 34 := ⟨⟨Try.t34, _, by kernel_rfl, rfl, rfl, rfl, rfl⟩, rfl, fun h => (by first | rfl | (cases h)), by simp [ti34, Value.oneCell'], ⟨_, Try.underlying34, rfl⟩⟩
def ti29 : TI := ⟨.ifc, 1, 16, [.nilIface]⟩
theorem ti29_ok : ti29.ok Try.prog 29 := ⟨⟨Try.t29, _, by kernel_rfl, rfl, rfl, rfl, rfl⟩, rfl, fun h => (by first | rfl | (cases h)), by simp [ti29, Value.oneCell'], ⟨_, Try.underlying29, ⟨_, rfl⟩⟩⟩
def ti40 : TI := ⟨.st [(0, 37), (1, 38)], 2, 32, [(.pointer .none), (.slice .none 0 0)]⟩
theorem ti40_ok : ti40.ok Try.prog 40 := ⟨⟨Try.t40, _, by kernel_rfl, rfl, rfl, rfl, rfl⟩, rfl, fun h => (by first | rfl | (cases h)), by simp [ti40, Value.oneCell'], ⟨_, Try.underlying40, ⟨_, rfl, rfl⟩⟩⟩
def ti37 : TI := ⟨.sc, 1, 8, [(.pointer .none)]⟩
theorem ti37_ok : ti37.ok Try.prog 37 := ⟨⟨Try.t37, _, by kernel_rfl, rfl, rfl, rfl, rfl⟩, rfl, fun h => (by first | rfl | (cases h)), by simp [ti37, Value.oneCell'], ⟨_, Try.underlying37, trivial⟩⟩
def ti38 : TI := ⟨.sl 5, 1, 24, [(.slice .none 0 0)]⟩
theorem ti38_ok : ti38.ok Try.prog 38 := ⟨⟨Try.t38, _, by kernel_rfl, rfl, rfl, rfl, rfl⟩, rfl, fun h => (by first | rfl | (cases h)), by simp [ti38, Value.oneCell'], ⟨_, Try.underlying38, rfl⟩⟩
def ti47 : TI := ⟨.sc, 1, 8, [(.pointer .none)]⟩
theorem ti47_ok : ti47.ok Try.prog 47 := ⟨⟨Try.t47, _, by kernel_rfl, rfl, rfl, rfl, rfl⟩, rfl, fun h => (by first | rfl | (cases h)), by simp [ti47, Value.oneCell'], ⟨_, Try.underlying47, trivial⟩⟩
def ti48 : TI := ⟨.int .i64, 1, 8, [(.int .i64 0)]⟩
theorem ti48_ok : ti48.ok Try.prog 48 := ⟨⟨Try.t48, _, by kernel_rfl, rfl, rfl, rfl, rfl⟩, rfl, fun h => (by first | rfl | (cases h)), by simp [ti48, Value.oneCell'], ⟨_, Try.underlying48, rfl⟩⟩
def ti49 : TI := ⟨.sc, 1, 8, [(.pointer .none)]⟩
theorem ti49_ok : ti49.ok Try.prog 49 := ⟨⟨Try.t49, _, by kernel_rfl, rfl, rfl, rfl, rfl⟩, rfl, fun h => (by first | rfl | (cases h)), by simp [ti49, Value.oneCell'], ⟨_, Try.underlying49, trivial⟩⟩
def tab : Tab := [(9, ⟨.str, 1, 16, [(.string ⟨#[]⟩)]⟩), (22, ⟨.sl 9, 1, 24, [(.slice .none 0 0)]⟩), (3, ⟨.int .i64, 1, 8, [(.int .i64 0)]⟩), (5, ⟨.int .u8, 1, 1, [(.int .u8 0)]⟩), (33, ⟨.st [(0, 3), (1, 3), (2, 3), (3, 3)], 4, 32, [(.int .i64 0), (.int .i64 0), (.int .i64 0), (.int .i64 0)]⟩), (34, ⟨.sl 33, 1, 24, [(.slice .none 0 0)]⟩), (29, ⟨.ifc, 1, 16, [.nilIface]⟩), (40, ⟨.st [(0, 37), (1, 38)], 2, 32, [(.pointer .none), (.slice .none 0 0)]⟩), (37, ⟨.sc, 1, 8, [(.pointer .none)]⟩), (38, ⟨.sl 5, 1, 24, [(.slice .none 0 0)]⟩), (47, ⟨.sc, 1, 8, [(.pointer .none)]⟩), (48, ⟨.int .i64, 1, 8, [(.int .i64 0)]⟩), (49, ⟨.sc, 1, 8, [(.pointer .none)]⟩)]
theorem tab_ok : Tab.ok Try.prog tab := by
  intro t i h
  simp only [tab] at h
  rcases tget_cons h with ⟨rfl, rfl⟩ | h
  · exact ti9_ok
  rcases tget_cons h with ⟨rfl, rfl⟩ | h
  · exact ti22_ok
  rcases tget_cons h with ⟨rfl, rfl⟩ | h
  · exact ti3_ok
  rcases tget_cons h with ⟨rfl, rfl⟩ | h
  · exact ti5_ok
  rcases tget_cons h with ⟨rfl, rfl⟩ | h
  · exact ti33_ok
  rcases tget_cons h with ⟨rfl, rfl⟩ | h
  · exact ti34_ok
  rcases tget_cons h with ⟨rfl, rfl⟩ | h
  · exact ti29_ok
  rcases tget_cons h with ⟨rfl, rfl⟩ | h
  · exact ti40_ok
  rcases tget_cons h with ⟨rfl, rfl⟩ | h
  · exact ti37_ok
  rcases tget_cons h with ⟨rfl, rfl⟩ | h
  · exact ti38_ok
  rcases tget_cons h with ⟨rfl, rfl⟩ | h
  · exact ti47_ok
  rcases tget_cons h with ⟨rfl, rfl⟩ | h
  · exact ti48_ok
  rcases tget_cons h with ⟨rfl, rfl⟩ | h
  · exact ti49_ok
  cases h
theorem mix : Try.prog.follows .mixedOrders = true := by kernel_rfl
end Go.Proofs.Ytjlobgcmhnkgnaa
