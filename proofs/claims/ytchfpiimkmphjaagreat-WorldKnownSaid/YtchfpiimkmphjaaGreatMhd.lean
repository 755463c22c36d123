/- A part of the proof: Mhd. No condition. -/
import Derived.Test.YtchfpiimkmphjaaGreatMhb
import Derived.Test.YtchfpiimkmphjaaGreatVmPb
import Derived.KernelRfl
namespace Go.VM
open Go
set_option maxRecDepth 1000000
def mh172_0 : RowH := ⟨[.agg [.int .i64 (1), .int .i64 (256), .int .i64 (0), .int .i64 (0), .nils, .int .i64 (0), .bool false, .int .i64 (0), .bool false, .int .i64 (4294967296), .bool false, .int .i64 (0), .bool false, .int .i64 (0), .bool false, .int .i64 (0), .bool false, .int .i64 (0), .bool false, .int .i64 (1367130551), .bool false, .int .i64 (2734261102), .bool false, .int .i64 (0), .bool false, .bool false, .int .i64 (1)]], [], .agg [.int .i64 (-256), .int .i64 (-256), .int .i64 (256), .int .i64 (256)], []⟩
def mh172_1 : RowH := ⟨[.agg [.int .i64 (2), .int .i64 (0), .int .i64 (256), .int .i64 (256), .nils, .int .i64 (8589934592), .bool false, .int .i64 (0), .bool false, .int .i64 (4294967296), .bool false, .int .i64 (0), .bool false, .int .i64 (0), .bool false, .int .i64 (0), .bool false, .int .i64 (0), .bool false, .int .i64 (0), .bool false, .int .i64 (0), .bool false, .int .i64 (0), .bool false, .bool false, .int .i64 (1)]], [], .agg [.int .i64 (256), .int .i64 (-256), .int .i64 (768), .int .i64 (256)], []⟩
def mh172_2 : RowH := ⟨[.agg [.int .i64 (1), .int .i64 (256), .int .i64 (0), .int .i64 (0), .nils, .int .i64 (-852282572), .bool false, .int .i64 (0), .bool false, .int .i64 (4294967296), .bool false, .int .i64 (0), .bool false, .int .i64 (0), .bool false, .int .i64 (0), .bool false, .int .i64 (0), .bool false, .int .i64 (1367130551), .bool false, .int .i64 (2734261102), .bool false, .int .i64 (1), .bool false, .bool false, .int .i64 (2)]], [], .agg [.int .i64 (-307), .int .i64 (-256), .int .i64 (205), .int .i64 (256)], []⟩
def mh172_3 : RowH := ⟨[.agg [.int .i64 (1), .int .i64 (256), .int .i64 (0), .int .i64 (0), .nils, .int .i64 (852282572), .bool false, .int .i64 (0), .bool false, .int .i64 (4294967296), .bool false, .int .i64 (0), .bool false, .int .i64 (0), .bool false, .int .i64 (0), .bool false, .int .i64 (0), .bool false, .int .i64 (1367130551), .bool false, .int .i64 (2734261102), .bool false, .int .i64 (1), .bool false, .bool false, .int .i64 (1)]], [], .agg [.int .i64 (-205), .int .i64 (-256), .int .i64 (307), .int .i64 (256)], []⟩
def mh172_4 : RowH := ⟨[.agg [.int .i64 (1), .int .i64 (256), .int .i64 (0), .int .i64 (0), .nils, .int .i64 (0), .bool false, .int .i64 (0), .bool false, .int .i64 (4294967296), .bool false, .int .i64 (0), .bool false, .int .i64 (0), .bool false, .int .i64 (0), .bool false, .int .i64 (0), .bool false, .int .i64 (1367130551), .bool false, .int .i64 (2734261102), .bool false, .int .i64 (1), .bool false, .bool false, .int .i64 (1)]], [], .agg [.int .i64 (-256), .int .i64 (-256), .int .i64 (256), .int .i64 (256)], []⟩
theorem mk172_0 : ranHB ftc ttc ntc ot8 1000000 200 172 mh172_0 = true := by kernel_rfl
theorem mk172_1 : ranHB ftc ttc ntc ot8 1000000 200 172 mh172_1 = true := by kernel_rfl
theorem mk172_2 : ranHB ftc ttc ntc ot8 1000000 200 172 mh172_2 = true := by kernel_rfl
theorem mk172_3 : ranHB ftc ttc ntc ot8 1000000 200 172 mh172_3 = true := by kernel_rfl
theorem mk172_4 : ranHB ftc ttc ntc ot8 1000000 200 172 mh172_4 = true := by kernel_rfl
noncomputable def mt172 : SumF := heapS rhoA (memoH [mh172_0, mh172_1, mh172_2, mh172_3, mh172_4])
theorem sum172 : SumOk Go.Proofs.Tryz.prog 172 mt172 := sumOk_memoH mixed ftok ttok ntok ot8_ok (lf := 1000000) (m := 200) (by
  intro r hr
  rcases List.mem_cons.1 hr with rfl | hr
  · exact mk172_0
  rcases List.mem_cons.1 hr with rfl | hr
  · exact mk172_1
  rcases List.mem_cons.1 hr with rfl | hr
  · exact mk172_2
  rcases List.mem_cons.1 hr with rfl | hr
  · exact mk172_3
  rcases List.mem_cons.1 hr with rfl | hr
  · exact mk172_4
  cases hr)
end Go.VM

namespace Go.VM
open Go
set_option maxRecDepth 1000000
def mh251_0 : RowH := ⟨[.agg [.int .i64 (1), .int .i64 (0), .int .i64 (0), .int .i64 (256), .nils]], [], .agg [.int .i64 (-256), .int .i64 (-256), .int .i64 (256), .int .i64 (256)], []⟩
def mh251_1 : RowH := ⟨[.agg [.int .i64 (2), .int .i64 (512), .int .i64 (0), .int .i64 (0), .slice 0 2 0 4 4 false]], [.arr 2 [[.int .i64 (256), .int .i64 (-256)], [.int .i64 (768), .int .i64 (-256)], [.int .i64 (768), .int .i64 (256)], [.int .i64 (256), .int .i64 (256)]]], .agg [.int .i64 (256), .int .i64 (-256), .int .i64 (768), .int .i64 (256)], [none]⟩
def mh251_2 : RowH := ⟨[.agg [.int .i64 (1), .int .i64 (-51), .int .i64 (0), .int .i64 (256), .nils]], [], .agg [.int .i64 (-307), .int .i64 (-256), .int .i64 (205), .int .i64 (256)], []⟩
def mh251_3 : RowH := ⟨[.agg [.int .i64 (1), .int .i64 (51), .int .i64 (0), .int .i64 (256), .nils]], [], .agg [.int .i64 (-205), .int .i64 (-256), .int .i64 (307), .int .i64 (256)], []⟩
theorem mk251_0 : ranHB ftc ttc ntc ot8 1000000 200 251 mh251_0 = true := by kernel_rfl
theorem mk251_1 : ranHB ftc ttc ntc ot8 1000000 200 251 mh251_1 = true := by kernel_rfl
theorem mk251_2 : ranHB ftc ttc ntc ot8 1000000 200 251 mh251_2 = true := by kernel_rfl
theorem mk251_3 : ranHB ftc ttc ntc ot8 1000000 200 251 mh251_3 = true := by kernel_rfl
noncomputable def mt251 : SumF := heapS rhoA (memoH [mh251_0, mh251_1, mh251_2, mh251_3])
theorem sum251 : SumOk Go.Proofs.Tryz.prog 251 mt251 := sumOk_memoH mixed ftok ttok ntok ot8_ok (lf := 1000000) (m := 200) (by
  intro r hr
  rcases List.mem_cons.1 hr with rfl | hr
  · exact mk251_0
  rcases List.mem_cons.1 hr with rfl | hr
  · exact mk251_1
  rcases List.mem_cons.1 hr with rfl | hr
  · exact mk251_2
  rcases List.mem_cons.1 hr with rfl | hr
  · exact mk251_3
  cases hr)
end Go.VM

namespace Go.VM
open Go
set_option maxRecDepth 1000000
def mh106_0 : RowH := ⟨[.agg [.int .i64 (-600), .int .i64 (0)], .agg [.int .i64 (600), .int .i64 (0)], .slice 0 5 0 3 3 true], [.arr 5 [[.int .i64 (1), .int .i64 (0), .int .i64 (0), .int .i64 (256), .nils], [.int .i64 (2), .int .i64 (512), .int .i64 (0), .int .i64 (0), .slice 1 2 0 4 4 false], [.int .i64 (1), .int .i64 (0), .int .i64 (0), .int .i64 (256), .nils]], .arr 2 [[.int .i64 (256), .int .i64 (-256)], [.int .i64 (768), .int .i64 (-256)], [.int .i64 (768), .int .i64 (256)], [.int .i64 (256), .int .i64 (256)]]], .tup [.int .i64 (0), .agg [.bool true, .int .i64 (1231223958), .bool false, .int .i64 (-4294967296), .bool false, .int .i64 (0), .bool false]], [none, none]⟩
theorem mk106_0 : ranHB ftc ttc ntc ot8 1000000 200 106 mh106_0 = true := by kernel_rfl
noncomputable def mt106 : SumF := heapS rhoA (memoH [mh106_0])
theorem sum106 : SumOk Go.Proofs.Tryz.prog 106 mt106 := sumOk_memoH mixed ftok ttok ntok ot8_ok (lf := 1000000) (m := 200) (by
  intro r hr
  rcases List.mem_cons.1 hr with rfl | hr
  · exact mk106_0
  cases hr)
end Go.VM

namespace Go.VM
open Go
set_option maxRecDepth 1000000
def mh361_0 : RowH := ⟨[.ptr 0 27 0 0, .ptr 1 27 0 0, .agg [.int .i64 (4294967296), .bool false, .int .i64 (0), .bool false], .agg [.int .i64 (4294967296), .bool false, .int .i64 (0), .bool false], .agg [.int .i64 (4294967296), .bool false, .int .i64 (0), .bool false], .agg [.int .i64 (0), .bool false]], [.arr 27 [[.int .i64 (1), .int .i64 (256), .int .i64 (0), .int .i64 (0), .nils, .int .i64 (0), .bool false, .int .i64 (0), .bool false, .int .i64 (4294967296), .bool false, .int .i64 (0), .bool false, .int .i64 (0), .bool false, .int .i64 (0), .bool false, .int .i64 (0), .bool false, .int .i64 (1367130551), .bool false, .int .i64 (2734261102), .bool false, .int .i64 (0), .bool false, .bool false, .int .i64 (2)]], .arr 27 [[.int .i64 (2), .int .i64 (0), .int .i64 (256), .int .i64 (256), .nils, .int .i64 (8589934592), .bool false, .int .i64 (0), .bool false, .int .i64 (4294967296), .bool false, .int .i64 (0), .bool false, .int .i64 (0), .bool false, .int .i64 (0), .bool false, .int .i64 (0), .bool false, .int .i64 (0), .bool false, .int .i64 (0), .bool false, .int .i64 (0), .bool false, .bool false, .int .i64 (1)]]], .tup [], [some (.arr 27 [[.int .i64 (1), .int .i64 (256), .int .i64 (0), .int .i64 (0), .nils, .int .i64 (0), .bool false, .int .i64 (0), .bool false, .int .i64 (4294967296), .bool false, .int .i64 (0), .bool false, .int .i64 (0), .bool false, .int .i64 (0), .bool false, .int .i64 (0), .bool false, .int .i64 (1367130551), .bool false, .int .i64 (2734261102), .bool false, .int .i64 (0), .bool false, .bool false, .int .i64 (2)]]), none]⟩
def mh361_1 : RowH := ⟨[.ptr 0 27 0 0, .ptr 1 27 0 0, .agg [.int .i64 (4294967296), .bool false, .int .i64 (0), .bool false], .agg [.int .i64 (4294967296), .bool false, .int .i64 (0), .bool false], .agg [.int .i64 (0), .bool false, .int .i64 (4294967296), .bool false], .agg [.int .i64 (0), .bool false]], [.arr 27 [[.int .i64 (1), .int .i64 (256), .int .i64 (0), .int .i64 (0), .nils, .int .i64 (0), .bool false, .int .i64 (0), .bool false, .int .i64 (4294967296), .bool false, .int .i64 (0), .bool false, .int .i64 (0), .bool false, .int .i64 (0), .bool false, .int .i64 (0), .bool false, .int .i64 (1367130551), .bool false, .int .i64 (2734261102), .bool false, .int .i64 (0), .bool false, .bool false, .int .i64 (2)]], .arr 27 [[.int .i64 (2), .int .i64 (0), .int .i64 (256), .int .i64 (256), .nils, .int .i64 (8589934592), .bool false, .int .i64 (0), .bool false, .int .i64 (4294967296), .bool false, .int .i64 (0), .bool false, .int .i64 (0), .bool false, .int .i64 (0), .bool false, .int .i64 (0), .bool false, .int .i64 (0), .bool false, .int .i64 (0), .bool false, .int .i64 (0), .bool false, .bool false, .int .i64 (1)]]], .tup [], [some (.arr 27 [[.int .i64 (1), .int .i64 (256), .int .i64 (0), .int .i64 (0), .nils, .int .i64 (0), .bool false, .int .i64 (0), .bool false, .int .i64 (4294967296), .bool false, .int .i64 (0), .bool false, .int .i64 (0), .bool false, .int .i64 (0), .bool false, .int .i64 (0), .bool false, .int .i64 (1367130551), .bool false, .int .i64 (2734261102), .bool false, .int .i64 (0), .bool false, .bool false, .int .i64 (2)]]), none]⟩
def mh361_2 : RowH := ⟨[.ptr 0 27 0 0, .ptr 1 27 0 0, .agg [.int .i64 (0), .bool false, .int .i64 (0), .bool false], .agg [.int .i64 (0), .bool false, .int .i64 (0), .bool false], .agg [.int .i64 (4294967296), .bool false, .int .i64 (0), .bool false], .agg [.int .i64 (0), .bool false]], [.arr 27 [[.int .i64 (1), .int .i64 (256), .int .i64 (0), .int .i64 (0), .nils, .int .i64 (0), .bool false, .int .i64 (0), .bool false, .int .i64 (4294967296), .bool false, .int .i64 (0), .bool false, .int .i64 (0), .bool false, .int .i64 (0), .bool false, .int .i64 (0), .bool false, .int .i64 (1367130551), .bool false, .int .i64 (2734261102), .bool false, .int .i64 (0), .bool false, .bool false, .int .i64 (2)]], .arr 27 [[.int .i64 (1), .int .i64 (256), .int .i64 (0), .int .i64 (0), .nils, .int .i64 (0), .bool false, .int .i64 (0), .bool false, .int .i64 (4294967296), .bool false, .int .i64 (0), .bool false, .int .i64 (0), .bool false, .int .i64 (0), .bool false, .int .i64 (0), .bool false, .int .i64 (1367130551), .bool false, .int .i64 (2734261102), .bool false, .int .i64 (0), .bool false, .bool false, .int .i64 (1)]]], .tup [], [some (.arr 27 [[.int .i64 (1), .int .i64 (256), .int .i64 (0), .int .i64 (0), .nils, .int .i64 (0), .bool false, .int .i64 (0), .bool false, .int .i64 (4294967296), .bool false, .int .i64 (0), .bool false, .int .i64 (0), .bool false, .int .i64 (0), .bool false, .int .i64 (0), .bool false, .int .i64 (1367130551), .bool false, .int .i64 (2734261102), .bool false, .int .i64 (0), .bool false, .bool false, .int .i64 (2)]]), some (.arr 27 [[.int .i64 (1), .int .i64 (256), .int .i64 (0), .int .i64 (0), .nils, .int .i64 (0), .bool false, .int .i64 (0), .bool false, .int .i64 (4294967296), .bool false, .int .i64 (0), .bool false, .int .i64 (0), .bool false, .int .i64 (0), .bool false, .int .i64 (0), .bool false, .int .i64 (1367130551), .bool false, .int .i64 (2734261102), .bool false, .int .i64 (0), .bool false, .bool false, .int .i64 (1)]])]⟩
def mh361_3 : RowH := ⟨[.ptr 0 27 0 0, .ptr 1 27 0 0, .agg [.int .i64 (0), .bool false, .int .i64 (0), .bool false], .agg [.int .i64 (0), .bool false, .int .i64 (0), .bool false], .agg [.int .i64 (0), .bool false, .int .i64 (4294967296), .bool false], .agg [.int .i64 (0), .bool false]], [.arr 27 [[.int .i64 (1), .int .i64 (256), .int .i64 (0), .int .i64 (0), .nils, .int .i64 (0), .bool false, .int .i64 (0), .bool false, .int .i64 (4294967296), .bool false, .int .i64 (0), .bool false, .int .i64 (0), .bool false, .int .i64 (0), .bool false, .int .i64 (0), .bool false, .int .i64 (1367130551), .bool false, .int .i64 (2734261102), .bool false, .int .i64 (0), .bool false, .bool false, .int .i64 (2)]], .arr 27 [[.int .i64 (1), .int .i64 (256), .int .i64 (0), .int .i64 (0), .nils, .int .i64 (0), .bool false, .int .i64 (0), .bool false, .int .i64 (4294967296), .bool false, .int .i64 (0), .bool false, .int .i64 (0), .bool false, .int .i64 (0), .bool false, .int .i64 (0), .bool false, .int .i64 (1367130551), .bool false, .int .i64 (2734261102), .bool false, .int .i64 (0), .bool false, .bool false, .int .i64 (1)]]], .tup [], [some (.arr 27 [[.int .i64 (1), .int .i64 (256), .int .i64 (0), .int .i64 (0), .nils, .int .i64 (0), .bool false, .int .i64 (0), .bool false, .int .i64 (4294967296), .bool false, .int .i64 (0), .bool false, .int .i64 (0), .bool false, .int .i64 (0), .bool false, .int .i64 (0), .bool false, .int .i64 (1367130551), .bool false, .int .i64 (2734261102), .bool false, .int .i64 (0), .bool false, .bool false, .int .i64 (2)]]), some (.arr 27 [[.int .i64 (1), .int .i64 (256), .int .i64 (0), .int .i64 (0), .nils, .int .i64 (0), .bool false, .int .i64 (0), .bool false, .int .i64 (4294967296), .bool false, .int .i64 (0), .bool false, .int .i64 (0), .bool false, .int .i64 (0), .bool false, .int .i64 (0), .bool false, .int .i64 (1367130551), .bool false, .int .i64 (2734261102), .bool false, .int .i64 (0), .bool false, .bool false, .int .i64 (1)]])]⟩
def mh361_4 : RowH := ⟨[.ptr 0 27 0 0, .ptr 1 27 0 0, .agg [.int .i64 (4294967296), .bool false, .int .i64 (0), .bool false], .agg [.int .i64 (4294967296), .bool false, .int .i64 (0), .bool false], .agg [.int .i64 (-4294967296), .bool false, .int .i64 (0), .bool false], .agg [.int .i64 (0), .bool false]], [.arr 27 [[.int .i64 (2), .int .i64 (0), .int .i64 (256), .int .i64 (256), .nils, .int .i64 (8589934592), .bool false, .int .i64 (0), .bool false, .int .i64 (4294967296), .bool false, .int .i64 (0), .bool false, .int .i64 (0), .bool false, .int .i64 (0), .bool false, .int .i64 (0), .bool false, .int .i64 (0), .bool false, .int .i64 (0), .bool false, .int .i64 (0), .bool false, .bool false, .int .i64 (1)]], .arr 27 [[.int .i64 (1), .int .i64 (256), .int .i64 (0), .int .i64 (0), .nils, .int .i64 (0), .bool false, .int .i64 (0), .bool false, .int .i64 (4294967296), .bool false, .int .i64 (0), .bool false, .int .i64 (0), .bool false, .int .i64 (0), .bool false, .int .i64 (0), .bool false, .int .i64 (1367130551), .bool false, .int .i64 (2734261102), .bool false, .int .i64 (0), .bool false, .bool false, .int .i64 (1)]]], .tup [], [none, some (.arr 27 [[.int .i64 (1), .int .i64 (256), .int .i64 (0), .int .i64 (0), .nils, .int .i64 (0), .bool false, .int .i64 (0), .bool false, .int .i64 (4294967296), .bool false, .int .i64 (0), .bool false, .int .i64 (0), .bool false, .int .i64 (0), .bool false, .int .i64 (0), .bool false, .int .i64 (1367130551), .bool false, .int .i64 (2734261102), .bool false, .int .i64 (0), .bool false, .bool false, .int .i64 (1)]])]⟩
def mh361_5 : RowH := ⟨[.ptr 0 27 0 0, .ptr 1 27 0 0, .agg [.int .i64 (4294967296), .bool false, .int .i64 (0), .bool false], .agg [.int .i64 (4294967296), .bool false, .int .i64 (0), .bool false], .agg [.int .i64 (0), .bool false, .int .i64 (-4294967296), .bool false], .agg [.int .i64 (0), .bool false]], [.arr 27 [[.int .i64 (2), .int .i64 (0), .int .i64 (256), .int .i64 (256), .nils, .int .i64 (8589934592), .bool false, .int .i64 (0), .bool false, .int .i64 (4294967296), .bool false, .int .i64 (0), .bool false, .int .i64 (0), .bool false, .int .i64 (0), .bool false, .int .i64 (0), .bool false, .int .i64 (0), .bool false, .int .i64 (0), .bool false, .int .i64 (0), .bool false, .bool false, .int .i64 (1)]], .arr 27 [[.int .i64 (1), .int .i64 (256), .int .i64 (0), .int .i64 (0), .nils, .int .i64 (0), .bool false, .int .i64 (0), .bool false, .int .i64 (4294967296), .bool false, .int .i64 (0), .bool false, .int .i64 (0), .bool false, .int .i64 (0), .bool false, .int .i64 (0), .bool false, .int .i64 (1367130551), .bool false, .int .i64 (2734261102), .bool false, .int .i64 (0), .bool false, .bool false, .int .i64 (1)]]], .tup [], [none, some (.arr 27 [[.int .i64 (1), .int .i64 (256), .int .i64 (0), .int .i64 (0), .nils, .int .i64 (0), .bool false, .int .i64 (0), .bool false, .int .i64 (4294967296), .bool false, .int .i64 (0), .bool false, .int .i64 (0), .bool false, .int .i64 (0), .bool false, .int .i64 (0), .bool false, .int .i64 (1367130551), .bool false, .int .i64 (2734261102), .bool false, .int .i64 (0), .bool false, .bool false, .int .i64 (1)]])]⟩
theorem mk361_0 : ranHB ftc ttc ntc ot8 1000000 200 361 mh361_0 = true := by kernel_rfl
theorem mk361_1 : ranHB ftc ttc ntc ot8 1000000 200 361 mh361_1 = true := by kernel_rfl
theorem mk361_2 : ranHB ftc ttc ntc ot8 1000000 200 361 mh361_2 = true := by kernel_rfl
theorem mk361_3 : ranHB ftc ttc ntc ot8 1000000 200 361 mh361_3 = true := by kernel_rfl
theorem mk361_4 : ranHB ftc ttc ntc ot8 1000000 200 361 mh361_4 = true := by kernel_rfl
theorem mk361_5 : ranHB ftc ttc ntc ot8 1000000 200 361 mh361_5 = true := by kernel_rfl
noncomputable def mt361 : SumF := heapS rhoA (memoH [mh361_0, mh361_1, mh361_2, mh361_3, mh361_4, mh361_5])
theorem sum361 : SumOk Go.Proofs.Tryz.prog 361 mt361 := sumOk_memoH mixed ftok ttok ntok ot8_ok (lf := 1000000) (m := 200) (by
  intro r hr
  rcases List.mem_cons.1 hr with rfl | hr
  · exact mk361_0
  rcases List.mem_cons.1 hr with rfl | hr
  · exact mk361_1
  rcases List.mem_cons.1 hr with rfl | hr
  · exact mk361_2
  rcases List.mem_cons.1 hr with rfl | hr
  · exact mk361_3
  rcases List.mem_cons.1 hr with rfl | hr
  · exact mk361_4
  rcases List.mem_cons.1 hr with rfl | hr
  · exact mk361_5
  cases hr)
end Go.VM

namespace Go.VM
open Go
set_option maxRecDepth 1000000
def mh360_0 : RowH := ⟨[.ptr 0 27 0 0, .ptr 1 27 0 0, .agg [.int .i64 (4294967296), .bool false, .int .i64 (0), .bool false], .agg [.int .i64 (4294967296), .bool false, .int .i64 (0), .bool false]], [.arr 27 [[.int .i64 (1), .int .i64 (256), .int .i64 (0), .int .i64 (0), .nils, .int .i64 (0), .bool false, .int .i64 (0), .bool false, .int .i64 (4294967296), .bool false, .int .i64 (0), .bool false, .int .i64 (0), .bool false, .int .i64 (0), .bool false, .int .i64 (0), .bool false, .int .i64 (1367130551), .bool false, .int .i64 (2734261102), .bool false, .int .i64 (0), .bool false, .bool false, .int .i64 (2)]], .arr 27 [[.int .i64 (2), .int .i64 (0), .int .i64 (256), .int .i64 (256), .nils, .int .i64 (8589934592), .bool false, .int .i64 (0), .bool false, .int .i64 (4294967296), .bool false, .int .i64 (0), .bool false, .int .i64 (0), .bool false, .int .i64 (0), .bool false, .int .i64 (0), .bool false, .int .i64 (0), .bool false, .int .i64 (0), .bool false, .int .i64 (0), .bool false, .bool false, .int .i64 (1)]]], .tup [.agg [.int .i64 (0), .bool false], .bool true], [none, none]⟩
def mh360_1 : RowH := ⟨[.ptr 0 27 0 0, .ptr 1 27 0 0, .agg [.int .i64 (4294967296), .bool false, .int .i64 (0), .bool false], .agg [.int .i64 (0), .bool false, .int .i64 (4294967296), .bool false]], [.arr 27 [[.int .i64 (1), .int .i64 (256), .int .i64 (0), .int .i64 (0), .nils, .int .i64 (0), .bool false, .int .i64 (0), .bool false, .int .i64 (4294967296), .bool false, .int .i64 (0), .bool false, .int .i64 (0), .bool false, .int .i64 (0), .bool false, .int .i64 (0), .bool false, .int .i64 (1367130551), .bool false, .int .i64 (2734261102), .bool false, .int .i64 (0), .bool false, .bool false, .int .i64 (2)]], .arr 27 [[.int .i64 (2), .int .i64 (0), .int .i64 (256), .int .i64 (256), .nils, .int .i64 (8589934592), .bool false, .int .i64 (0), .bool false, .int .i64 (4294967296), .bool false, .int .i64 (0), .bool false, .int .i64 (0), .bool false, .int .i64 (0), .bool false, .int .i64 (0), .bool false, .int .i64 (0), .bool false, .int .i64 (0), .bool false, .int .i64 (0), .bool false, .bool false, .int .i64 (1)]]], .tup [.agg [.int .i64 (0), .bool false], .bool true], [none, none]⟩
def mh360_2 : RowH := ⟨[.ptr 0 27 0 0, .ptr 1 27 0 0, .agg [.int .i64 (0), .bool false, .int .i64 (0), .bool false], .agg [.int .i64 (4294967296), .bool false, .int .i64 (0), .bool false]], [.arr 27 [[.int .i64 (1), .int .i64 (256), .int .i64 (0), .int .i64 (0), .nils, .int .i64 (0), .bool false, .int .i64 (0), .bool false, .int .i64 (4294967296), .bool false, .int .i64 (0), .bool false, .int .i64 (0), .bool false, .int .i64 (0), .bool false, .int .i64 (0), .bool false, .int .i64 (1367130551), .bool false, .int .i64 (2734261102), .bool false, .int .i64 (0), .bool false, .bool false, .int .i64 (2)]], .arr 27 [[.int .i64 (1), .int .i64 (256), .int .i64 (0), .int .i64 (0), .nils, .int .i64 (0), .bool false, .int .i64 (0), .bool false, .int .i64 (4294967296), .bool false, .int .i64 (0), .bool false, .int .i64 (0), .bool false, .int .i64 (0), .bool false, .int .i64 (0), .bool false, .int .i64 (1367130551), .bool false, .int .i64 (2734261102), .bool false, .int .i64 (0), .bool false, .bool false, .int .i64 (1)]]], .tup [.agg [.int .i64 (0), .bool false], .bool true], [none, none]⟩
def mh360_3 : RowH := ⟨[.ptr 0 27 0 0, .ptr 1 27 0 0, .agg [.int .i64 (0), .bool false, .int .i64 (0), .bool false], .agg [.int .i64 (0), .bool false, .int .i64 (4294967296), .bool false]], [.arr 27 [[.int .i64 (1), .int .i64 (256), .int .i64 (0), .int .i64 (0), .nils, .int .i64 (0), .bool false, .int .i64 (0), .bool false, .int .i64 (4294967296), .bool false, .int .i64 (0), .bool false, .int .i64 (0), .bool false, .int .i64 (0), .bool false, .int .i64 (0), .bool false, .int .i64 (1367130551), .bool false, .int .i64 (2734261102), .bool false, .int .i64 (0), .bool false, .bool false, .int .i64 (2)]], .arr 27 [[.int .i64 (1), .int .i64 (256), .int .i64 (0), .int .i64 (0), .nils, .int .i64 (0), .bool false, .int .i64 (0), .bool false, .int .i64 (4294967296), .bool false, .int .i64 (0), .bool false, .int .i64 (0), .bool false, .int .i64 (0), .bool false, .int .i64 (0), .bool false, .int .i64 (1367130551), .bool false, .int .i64 (2734261102), .bool false, .int .i64 (0), .bool false, .bool false, .int .i64 (1)]]], .tup [.agg [.int .i64 (0), .bool false], .bool true], [none, none]⟩
def mh360_4 : RowH := ⟨[.ptr 0 27 0 0, .ptr 1 27 0 0, .agg [.int .i64 (4294967296), .bool false, .int .i64 (0), .bool false], .agg [.int .i64 (-4294967296), .bool false, .int .i64 (0), .bool false]], [.arr 27 [[.int .i64 (2), .int .i64 (0), .int .i64 (256), .int .i64 (256), .nils, .int .i64 (8589934592), .bool false, .int .i64 (0), .bool false, .int .i64 (4294967296), .bool false, .int .i64 (0), .bool false, .int .i64 (0), .bool false, .int .i64 (0), .bool false, .int .i64 (0), .bool false, .int .i64 (0), .bool false, .int .i64 (0), .bool false, .int .i64 (0), .bool false, .bool false, .int .i64 (1)]], .arr 27 [[.int .i64 (1), .int .i64 (256), .int .i64 (0), .int .i64 (0), .nils, .int .i64 (0), .bool false, .int .i64 (0), .bool false, .int .i64 (4294967296), .bool false, .int .i64 (0), .bool false, .int .i64 (0), .bool false, .int .i64 (0), .bool false, .int .i64 (0), .bool false, .int .i64 (1367130551), .bool false, .int .i64 (2734261102), .bool false, .int .i64 (0), .bool false, .bool false, .int .i64 (1)]]], .tup [.agg [.int .i64 (0), .bool false], .bool true], [none, none]⟩
def mh360_5 : RowH := ⟨[.ptr 0 27 0 0, .ptr 1 27 0 0, .agg [.int .i64 (4294967296), .bool false, .int .i64 (0), .bool false], .agg [.int .i64 (0), .bool false, .int .i64 (-4294967296), .bool false]], [.arr 27 [[.int .i64 (2), .int .i64 (0), .int .i64 (256), .int .i64 (256), .nils, .int .i64 (8589934592), .bool false, .int .i64 (0), .bool false, .int .i64 (4294967296), .bool false, .int .i64 (0), .bool false, .int .i64 (0), .bool false, .int .i64 (0), .bool false, .int .i64 (0), .bool false, .int .i64 (0), .bool false, .int .i64 (0), .bool false, .int .i64 (0), .bool false, .bool false, .int .i64 (1)]], .arr 27 [[.int .i64 (1), .int .i64 (256), .int .i64 (0), .int .i64 (0), .nils, .int .i64 (0), .bool false, .int .i64 (0), .bool false, .int .i64 (4294967296), .bool false, .int .i64 (0), .bool false, .int .i64 (0), .bool false, .int .i64 (0), .bool false, .int .i64 (0), .bool false, .int .i64 (1367130551), .bool false, .int .i64 (2734261102), .bool false, .int .i64 (0), .bool false, .bool false, .int .i64 (1)]]], .tup [.agg [.int .i64 (0), .bool false], .bool true], [none, none]⟩
theorem mk360_0 : ranHB ftc ttc ntc ot8 1000000 200 360 mh360_0 = true := by kernel_rfl
theorem mk360_1 : ranHB ftc ttc ntc ot8 1000000 200 360 mh360_1 = true := by kernel_rfl
theorem mk360_2 : ranHB ftc ttc ntc ot8 1000000 200 360 mh360_2 = true := by kernel_rfl
theorem mk360_3 : ranHB ftc ttc ntc ot8 1000000 200 360 mh360_3 = true := by kernel_rfl
theorem mk360_4 : ranHB ftc ttc ntc ot8 1000000 200 360 mh360_4 = true := by kernel_rfl
theorem mk360_5 : ranHB ftc ttc ntc ot8 1000000 200 360 mh360_5 = true := by kernel_rfl
noncomputable def mt360 : SumF := heapS rhoA (memoH [mh360_0, mh360_1, mh360_2, mh360_3, mh360_4, mh360_5])
theorem sum360 : SumOk Go.Proofs.Tryz.prog 360 mt360 := sumOk_memoH mixed ftok ttok ntok ot8_ok (lf := 1000000) (m := 200) (by
  intro r hr
  rcases List.mem_cons.1 hr with rfl | hr
  · exact mk360_0
  rcases List.mem_cons.1 hr with rfl | hr
  · exact mk360_1
  rcases List.mem_cons.1 hr with rfl | hr
  · exact mk360_2
  rcases List.mem_cons.1 hr with rfl | hr
  · exact mk360_3
  rcases List.mem_cons.1 hr with rfl | hr
  · exact mk360_4
  rcases List.mem_cons.1 hr with rfl | hr
  · exact mk360_5
  cases hr)
end Go.VM

namespace Go.VM
open Go
set_option maxRecDepth 1000000
def mh195_0 : RowH := ⟨[.ptr 0 27 0 0, .agg [.int .i64 (0), .bool false, .int .i64 (0), .bool false], .agg [.int .i64 (4294967296), .bool false, .int .i64 (0), .bool false]], [.arr 27 [[.int .i64 (1), .int .i64 (256), .int .i64 (0), .int .i64 (0), .nils, .int .i64 (0), .bool false, .int .i64 (0), .bool false, .int .i64 (4294967296), .bool false, .int .i64 (0), .bool false, .int .i64 (0), .bool false, .int .i64 (0), .bool false, .int .i64 (0), .bool false, .int .i64 (1367130551), .bool false, .int .i64 (2734261102), .bool false, .int .i64 (0), .bool false, .bool false, .int .i64 (1)]]], .tup [], [some (.arr 27 [[.int .i64 (1), .int .i64 (256), .int .i64 (0), .int .i64 (0), .nils, .int .i64 (0), .bool false, .int .i64 (0), .bool false, .int .i64 (4294967296), .bool false, .int .i64 (0), .bool false, .int .i64 (1367130551), .bool false, .int .i64 (0), .bool false, .int .i64 (0), .bool false, .int .i64 (1367130551), .bool false, .int .i64 (2734261102), .bool false, .int .i64 (0), .bool false, .bool false, .int .i64 (1)]])]⟩
def mh195_1 : RowH := ⟨[.ptr 0 27 0 0, .agg [.int .i64 (0), .bool false, .int .i64 (0), .bool false], .agg [.int .i64 (-4294967296), .bool false, .int .i64 (0), .bool false]], [.arr 27 [[.int .i64 (1), .int .i64 (256), .int .i64 (0), .int .i64 (0), .nils, .int .i64 (0), .bool false, .int .i64 (0), .bool false, .int .i64 (4294967296), .bool false, .int .i64 (0), .bool false, .int .i64 (1367130551), .bool false, .int .i64 (0), .bool false, .int .i64 (0), .bool false, .int .i64 (1367130551), .bool false, .int .i64 (2734261102), .bool false, .int .i64 (0), .bool false, .bool false, .int .i64 (2)]]], .tup [], [some (.arr 27 [[.int .i64 (1), .int .i64 (256), .int .i64 (0), .int .i64 (0), .nils, .int .i64 (0), .bool false, .int .i64 (0), .bool false, .int .i64 (4294967296), .bool false, .int .i64 (0), .bool false, .int .i64 (0), .bool false, .int .i64 (0), .bool false, .int .i64 (0), .bool false, .int .i64 (1367130551), .bool false, .int .i64 (2734261102), .bool false, .int .i64 (0), .bool false, .bool false, .int .i64 (2)]])]⟩
def mh195_2 : RowH := ⟨[.ptr 0 27 0 0, .agg [.int .i64 (4294967296), .bool false, .int .i64 (0), .bool false], .agg [.int .i64 (0), .bool false, .int .i64 (0), .bool false]], [.arr 27 [[.int .i64 (1), .int .i64 (256), .int .i64 (0), .int .i64 (0), .nils, .int .i64 (0), .bool false, .int .i64 (0), .bool false, .int .i64 (4294967296), .bool false, .int .i64 (0), .bool false, .int .i64 (0), .bool false, .int .i64 (0), .bool false, .int .i64 (0), .bool false, .int .i64 (1367130551), .bool false, .int .i64 (2734261102), .bool false, .int .i64 (0), .bool false, .bool false, .int .i64 (2)]]], .tup [], [some (.arr 27 [[.int .i64 (1), .int .i64 (256), .int .i64 (0), .int .i64 (0), .nils, .int .i64 (0), .bool false, .int .i64 (0), .bool false, .int .i64 (4294967296), .bool false, .int .i64 (0), .bool false, .int .i64 (0), .bool false, .int .i64 (0), .bool false, .int .i64 (0), .bool false, .int .i64 (1367130551), .bool false, .int .i64 (2734261102), .bool false, .int .i64 (0), .bool false, .bool false, .int .i64 (2)]])]⟩
def mh195_3 : RowH := ⟨[.ptr 0 27 0 0, .agg [.int .i64 (4294967296), .bool false, .int .i64 (0), .bool false], .agg [.int .i64 (0), .bool false, .int .i64 (0), .bool false]], [.arr 27 [[.int .i64 (2), .int .i64 (0), .int .i64 (256), .int .i64 (256), .nils, .int .i64 (8589934592), .bool false, .int .i64 (0), .bool false, .int .i64 (4294967296), .bool false, .int .i64 (0), .bool false, .int .i64 (0), .bool false, .int .i64 (0), .bool false, .int .i64 (0), .bool false, .int .i64 (0), .bool false, .int .i64 (0), .bool false, .int .i64 (0), .bool false, .bool false, .int .i64 (1)]]], .tup [], [none]⟩
def mh195_4 : RowH := ⟨[.ptr 0 27 0 0, .agg [.int .i64 (0), .bool false, .int .i64 (0), .bool false], .agg [.int .i64 (0), .bool false, .int .i64 (0), .bool false]], [.arr 27 [[.int .i64 (1), .int .i64 (256), .int .i64 (0), .int .i64 (0), .nils, .int .i64 (0), .bool false, .int .i64 (0), .bool false, .int .i64 (4294967296), .bool false, .int .i64 (0), .bool false, .int .i64 (0), .bool false, .int .i64 (0), .bool false, .int .i64 (0), .bool false, .int .i64 (1367130551), .bool false, .int .i64 (2734261102), .bool false, .int .i64 (0), .bool false, .bool false, .int .i64 (2)]]], .tup [], [some (.arr 27 [[.int .i64 (1), .int .i64 (256), .int .i64 (0), .int .i64 (0), .nils, .int .i64 (0), .bool false, .int .i64 (0), .bool false, .int .i64 (4294967296), .bool false, .int .i64 (0), .bool false, .int .i64 (0), .bool false, .int .i64 (0), .bool false, .int .i64 (0), .bool false, .int .i64 (1367130551), .bool false, .int .i64 (2734261102), .bool false, .int .i64 (0), .bool false, .bool false, .int .i64 (2)]])]⟩
def mh195_5 : RowH := ⟨[.ptr 0 27 0 0, .agg [.int .i64 (0), .bool false, .int .i64 (0), .bool false], .agg [.int .i64 (0), .bool false, .int .i64 (0), .bool false]], [.arr 27 [[.int .i64 (1), .int .i64 (256), .int .i64 (0), .int .i64 (0), .nils, .int .i64 (0), .bool false, .int .i64 (0), .bool false, .int .i64 (4294967296), .bool false, .int .i64 (0), .bool false, .int .i64 (0), .bool false, .int .i64 (0), .bool false, .int .i64 (0), .bool false, .int .i64 (1367130551), .bool false, .int .i64 (2734261102), .bool false, .int .i64 (0), .bool false, .bool false, .int .i64 (1)]]], .tup [], [some (.arr 27 [[.int .i64 (1), .int .i64 (256), .int .i64 (0), .int .i64 (0), .nils, .int .i64 (0), .bool false, .int .i64 (0), .bool false, .int .i64 (4294967296), .bool false, .int .i64 (0), .bool false, .int .i64 (0), .bool false, .int .i64 (0), .bool false, .int .i64 (0), .bool false, .int .i64 (1367130551), .bool false, .int .i64 (2734261102), .bool false, .int .i64 (0), .bool false, .bool false, .int .i64 (1)]])]⟩
def mh195_6 : RowH := ⟨[.ptr 0 27 0 0, .agg [.int .i64 (4294967296), .bool false, .int .i64 (0), .bool false], .agg [.int .i64 (0), .bool false, .int .i64 (0), .bool false]], [.arr 27 [[.int .i64 (1), .int .i64 (256), .int .i64 (0), .int .i64 (0), .nils, .int .i64 (0), .bool false, .int .i64 (0), .bool false, .int .i64 (4294967296), .bool false, .int .i64 (0), .bool false, .int .i64 (0), .bool false, .int .i64 (0), .bool false, .int .i64 (0), .bool false, .int .i64 (1367130551), .bool false, .int .i64 (2734261102), .bool false, .int .i64 (0), .bool false, .bool false, .int .i64 (1)]]], .tup [], [some (.arr 27 [[.int .i64 (1), .int .i64 (256), .int .i64 (0), .int .i64 (0), .nils, .int .i64 (0), .bool false, .int .i64 (0), .bool false, .int .i64 (4294967296), .bool false, .int .i64 (0), .bool false, .int .i64 (0), .bool false, .int .i64 (0), .bool false, .int .i64 (0), .bool false, .int .i64 (1367130551), .bool false, .int .i64 (2734261102), .bool false, .int .i64 (0), .bool false, .bool false, .int .i64 (1)]])]⟩
theorem mk195_0 : ranHB ftc ttc ntc ot8 1000000 200 195 mh195_0 = true := by kernel_rfl
theorem mk195_1 : ranHB ftc ttc ntc ot8 1000000 200 195 mh195_1 = true := by kernel_rfl
theorem mk195_2 : ranHB ftc ttc ntc ot8 1000000 200 195 mh195_2 = true := by kernel_rfl
theorem mk195_3 : ranHB ftc ttc ntc ot8 1000000 200 195 mh195_3 = true := by kernel_rfl
theorem mk195_4 : ranHB ftc ttc ntc ot8 1000000 200 195 mh195_4 = true := by kernel_rfl
theorem mk195_5 : ranHB ftc ttc ntc ot8 1000000 200 195 mh195_5 = true := by kernel_rfl
theorem mk195_6 : ranHB ftc ttc ntc ot8 1000000 200 195 mh195_6 = true := by kernel_rfl
noncomputable def mt195 : SumF := heapS rhoA (memoH [mh195_0, mh195_1, mh195_2, mh195_3, mh195_4, mh195_5, mh195_6])
theorem sum195 : SumOk Go.Proofs.Tryz.prog 195 mt195 := sumOk_memoH mixed ftok ttok ntok ot8_ok (lf := 1000000) (m := 200) (by
  intro r hr
  rcases List.mem_cons.1 hr with rfl | hr
  · exact mk195_0
  rcases List.mem_cons.1 hr with rfl | hr
  · exact mk195_1
  rcases List.mem_cons.1 hr with rfl | hr
  · exact mk195_2
  rcases List.mem_cons.1 hr with rfl | hr
  · exact mk195_3
  rcases List.mem_cons.1 hr with rfl | hr
  · exact mk195_4
  rcases List.mem_cons.1 hr with rfl | hr
  · exact mk195_5
  rcases List.mem_cons.1 hr with rfl | hr
  · exact mk195_6
  cases hr)
end Go.VM

