/- A part of the proof: Mhc. No condition. -/
import Derived.Test.YtchfpiimkmphjaaGreatMha
import Derived.Test.YtchfpiimkmphjaaGreatVmPb
import Derived.KernelRfl
namespace Go.VM
open Go
set_option maxRecDepth 1000000
def mh221_0 : RowH := ⟨[.agg [.int .i64 (1), .int .i64 (256), .int .i64 (0), .int .i64 (0), .nils], .agg [.int .i64 (0), .bool false, .int .i64 (0), .bool false, .int .i64 (4294967296), .bool false, .int .i64 (0), .bool false]], [], .tup [.agg [.int .i64 (1), .int .i64 (0), .int .i64 (0), .int .i64 (256), .nils], .int .i64 (0)], []⟩
def mh221_1 : RowH := ⟨[.agg [.int .i64 (2), .int .i64 (0), .int .i64 (256), .int .i64 (256), .nils], .agg [.int .i64 (8589934592), .bool false, .int .i64 (0), .bool false, .int .i64 (4294967296), .bool false, .int .i64 (0), .bool false]], [], .tup [.agg [.int .i64 (2), .int .i64 (512), .int .i64 (0), .int .i64 (0), .slice 0 2 0 4 4 false], .int .i64 (0)], [some (.arr 2 [[.int .i64 (256), .int .i64 (-256)], [.int .i64 (768), .int .i64 (-256)], [.int .i64 (768), .int .i64 (256)], [.int .i64 (256), .int .i64 (256)]])]⟩
theorem mk221_0 : ranHB ftc ttc ntc ot7 1000000 200 221 mh221_0 = true := by kernel_rfl
theorem mk221_1 : ranHB ftc ttc ntc ot7 1000000 200 221 mh221_1 = true := by kernel_rfl
noncomputable def mt221 : SumF := heapS rhoA (memoH [mh221_0, mh221_1])
theorem sum221 : SumOk Go.Proofs.Tryz.prog 221 mt221 := sumOk_memoH mixed ftok ttok ntok ot7_ok (lf := 1000000) (m := 200) (by
  intro r hr
  rcases List.mem_cons.1 hr with rfl | hr
  · exact mk221_0
  rcases List.mem_cons.1 hr with rfl | hr
  · exact mk221_1
  cases hr)
end Go.VM

namespace Go.VM
open Go
set_option maxRecDepth 1000000
def mh220_0 : RowH := ⟨[.agg [.int .i64 (1), .int .i64 (256), .int .i64 (0), .int .i64 (0), .nils], .int .i64 (1)], [], .tup [.agg [.int .i64 (1367130551), .bool false, .int .i64 (2734261102), .bool false], .int .i64 (0)], []⟩
theorem mk220_0 : ranHB ftc ttc ntc ot7 1000000 200 220 mh220_0 = true := by kernel_rfl
noncomputable def mt220 : SumF := heapS rhoA (memoH [mh220_0])
theorem sum220 : SumOk Go.Proofs.Tryz.prog 220 mt220 := sumOk_memoH mixed ftok ttok ntok ot7_ok (lf := 1000000) (m := 200) (by
  intro r hr
  rcases List.mem_cons.1 hr with rfl | hr
  · exact mk220_0
  cases hr)
end Go.VM

