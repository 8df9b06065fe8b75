/- The table of types. Printed by irp.py. -/
import Derived.Test.YtdabahipeepheaaVc22
import Derived.Test.YtdabahipeepheaaProg
import Derived.KernelRfl
namespace Go.Proofs.Ytdabahipeepheaa
open Go Vc
def ti22 : TI := ⟨.sl 3, 1, 24, [(.slice .none 0 0)]⟩
theorem ti22_ok : ti22.ok Try.prog 22 := ⟨⟨Try.t22, _, by kernel_rfl, rfl, rfl, rfl, rfl⟩, rfl, fun h => (by first | rfl | (cases h)), by simp [ti22, Value.oneCell'], ⟨_, Try.underlying22, rfl⟩⟩
def ti3 : TI := ⟨.int .i64, 1, 8, [(.int .i64 0)]⟩
theorem ti3_ok : ti3.ok Try.prog 3 := ⟨⟨Try.t3, _, by kernel_rfl, rfl, rfl, rfl, rfl⟩, rfl, fun h => (by first | rfl | (cases h)), by simp [ti3, Value.oneCell'], ⟨_, Try.underlying3, rfl⟩⟩
def ti4 : TI := ⟨.sc, 1, 1, [(.bool .false)]⟩
theorem ti4_ok : ti4.ok Try.prog 4 := ⟨⟨Try.t4, _, by kernel_rfl, rfl, rfl, rfl, rfl⟩, rfl, fun h => (by first | rfl | (cases h)), by simp [ti4, Value.oneCell'], ⟨_, Try.underlying4, trivial⟩⟩
def ti27 : TI := ⟨.sl 30, 1, 24, [(.slice .none 0 0)]⟩
theorem ti27_ok : ti27.ok Try.prog 27 := ⟨⟨Try.t27, _, by kernel_rfl, rfl, rfl, rfl, rfl⟩, rfl, fun h => (by first | rfl | (cases h)), by simp [ti27, Value.oneCell'], ⟨_, Try.underlying27, rfl⟩⟩
def ti30 : TI := ⟨.st [(0, 3), (1, 3), (2, 3), (3, 3)], 4, 32, [(.int .i64 0), (.int .i64 0), (.int .i64 0), (.int .i64 0)]⟩
theorem ti30_ok : ti30.ok Try.prog 30 := ⟨⟨Try.t30, _, by kernel_rfl, rfl, rfl, rfl, rfl⟩, rfl, fun h => (by first | rfl | (cases h)), by simp [ti30, Value.oneCell'], ⟨_, Try.underlying30, ⟨_, rfl, rfl⟩⟩⟩
def ti38 : TI := ⟨.st [(0, 36), (1, 36)], 2, 48, [(.slice .none 0 0), (.slice .none 0 0)]⟩
theorem ti38_ok : ti38.ok Try.prog 38 := ⟨⟨Try.t38, _, by kernel_rfl, rfl, rfl, rfl, rfl⟩, rfl, fun h => (by first | rfl | (cases h)), by simp [ti38, Value.oneCell'], ⟨_, Try.underlying38, ⟨_, rfl, rfl⟩⟩⟩
def ti36 : TI := ⟨.sl 4, 1, 24, [(.slice .none 0 0)]⟩
theorem ti36_ok : ti36.ok Try.prog 36 := ⟨⟨Try.t36, _, by kernel_rfl, rfl, rfl, rfl, rfl⟩, rfl, fun h => (by first | rfl | (cases h)), by simp [ti36, Value.oneCell'], ⟨_, Try.underlying36, rfl⟩⟩
def ti41 : TI := ⟨.sl 43, 1, 24, [(.slice .none 0 0)]⟩
theorem ti41_ok : ti41.ok Try.prog 41 := ⟨⟨Try.t41, _, by kernel_rfl, rfl, rfl, rfl, rfl⟩, rfl, fun h => (by first | rfl | (cases h)), by simp [ti41, Value.oneCell'], ⟨_, Try.underlying41, rfl⟩⟩
def ti43 : TI := ⟨.arr 2 3, 2, 16, [(.int .i64 0), (.int .i64 0)]⟩
theorem ti43_ok : ti43.ok Try.prog 43 := ⟨⟨Try.t43, _, by kernel_rfl, rfl, rfl, rfl, rfl⟩, rfl, fun h => (by first | rfl | (cases h)), by simp [ti43, Value.oneCell'], ⟨_, Try.underlying43, rfl⟩⟩
def ti45 : TI := ⟨.st [(0, 22), (1, 22), (2, 3), (3, 3)], 4, 64, [(.slice .none 0 0), (.slice .none 0 0), (.int .i64 0), (.int .i64 0)]⟩
theorem ti45_ok : ti45.ok Try.prog 45 := ⟨⟨Try.t45, _, by kernel_rfl, rfl, rfl, rfl, rfl⟩, rfl, fun h => (by first | rfl | (cases h)), by simp [ti45, Value.oneCell'], ⟨_, Try.underlying45, ⟨_, rfl, rfl⟩⟩⟩
def ti46 : TI := ⟨.sl 45, 1, 24, [(.slice .none 0 0)]⟩
theorem ti46_ok : ti46.ok Try.prog 46 := ⟨⟨Try.t46, _, by kernel_rfl, rfl, rfl, rfl, rfl⟩, rfl, fun h => (by first | rfl | (cases h)), by simp [ti46, Value.oneCell'], ⟨_, Try.underlying46, rfl⟩⟩
def tab : Tab := [(22, ⟨.sl 3, 1, 24, [(.slice .none 0 0)]⟩), (3, ⟨.int .i64, 1, 8, [(.int .i64 0)]⟩), (4, ⟨.sc, 1, 1, [(.bool .false)]⟩), (27, ⟨.sl 30, 1, 24, [(.slice .none 0 0)]⟩), (30, ⟨.st [(0, 3), (1, 3), (2, 3), (3, 3)], 4, 32, [(.int .i64 0), (.int .i64 0), (.int .i64 0), (.int .i64 0)]⟩), (38, ⟨.st [(0, 36), (1, 36)], 2, 48, [(.slice .none 0 0), (.slice .none 0 0)]⟩), (36, ⟨.sl 4, 1, 24, [(.slice .none 0 0)]⟩), (41, ⟨.sl 43, 1, 24, [(.slice .none 0 0)]⟩), (43, ⟨.arr 2 3, 2, 16, [(.int .i64 0), (.int .i64 0)]⟩), (45, ⟨.st [(0, 22), (1, 22), (2, 3), (3, 3)], 4, 64, [(.slice .none 0 0), (.slice .none 0 0), (.int .i64 0), (.int .i64 0)]⟩), (46, ⟨.sl 45, 1, 24, [(.slice .none 0 0)]⟩)]
theorem tab_ok : Tab.ok Try.prog tab := by
  intro t i h
  simp only [tab] at h
  rcases tget_cons h with ⟨rfl, rfl⟩ | h
  · exact ti22_ok
  rcases tget_cons h with ⟨rfl, rfl⟩ | h
  · exact ti3_ok
  rcases tget_cons h with ⟨rfl, rfl⟩ | h
  · exact ti4_ok
  rcases tget_cons h with ⟨rfl, rfl⟩ | h
  · exact ti27_ok
  rcases tget_cons h with ⟨rfl, rfl⟩ | h
  · exact ti30_ok
  rcases tget_cons h with ⟨rfl, rfl⟩ | h
  · exact ti38_ok
  rcases tget_cons h with ⟨rfl, rfl⟩ | h
  · exact ti36_ok
  rcases tget_cons h with ⟨rfl, rfl⟩ | h
  · exact ti41_ok
  rcases tget_cons h with ⟨rfl, rfl⟩ | h
  · exact ti43_ok
  rcases tget_cons h with ⟨rfl, rfl⟩ | h
  · exact ti45_ok
  rcases tget_cons h with ⟨rfl, rfl⟩ | h
  · exact ti46_ok
  cases h
theorem mix : Try.prog.follows .mixedOrders = true := by kernel_rfl
end Go.Proofs.Ytdabahipeepheaa
