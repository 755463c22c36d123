/- A part of the proof: Mhb. No condition. -/
import Derived.Test.YtchfpiimkmphjaaGreatMha
import Derived.Test.YtchfpiimkmphjaaGreatVmPb
import Derived.KernelRfl
namespace Go.VM
open Go
set_option maxRecDepth 1000000
def mh105_0 : RowH := ⟨[.agg [.int .i64 (1), .int .i64 (256), .int .i64 (0), .int .i64 (0), .nils, .int .i64 (0), .bool false, .int .i64 (0), .bool false, .int .i64 (4294967296), .bool false, .int .i64 (0), .bool false, .int .i64 (0), .bool false, .int .i64 (0), .bool false, .int .i64 (0), .bool false, .int .i64 (1367130551), .bool false, .int .i64 (2734261102), .bool false, .int .i64 (0), .bool false, .bool false, .int .i64 (1)]], [], .tup [.agg [.int .i64 (1), .int .i64 (0), .int .i64 (0), .int .i64 (256), .nils], .int .i64 (0)], []⟩
def mh105_1 : RowH := ⟨[.agg [.int .i64 (2), .int .i64 (0), .int .i64 (256), .int .i64 (256), .nils, .int .i64 (8589934592), .bool false, .int .i64 (0), .bool false, .int .i64 (4294967296), .bool false, .int .i64 (0), .bool false, .int .i64 (0), .bool false, .int .i64 (0), .bool false, .int .i64 (0), .bool false, .int .i64 (0), .bool false, .int .i64 (0), .bool false, .int .i64 (0), .bool false, .bool false, .int .i64 (1)]], [], .tup [.agg [.int .i64 (2), .int .i64 (512), .int .i64 (0), .int .i64 (0), .slice 0 2 0 4 4 false], .int .i64 (0)], [some (.arr 2 [[.int .i64 (256), .int .i64 (-256)], [.int .i64 (768), .int .i64 (-256)], [.int .i64 (768), .int .i64 (256)], [.int .i64 (256), .int .i64 (256)]])]⟩
def mh105_2 : RowH := ⟨[.agg [.int .i64 (1), .int .i64 (256), .int .i64 (0), .int .i64 (0), .nils, .int .i64 (0), .bool false, .int .i64 (0), .bool false, .int .i64 (4294967296), .bool false, .int .i64 (0), .bool false, .int .i64 (1367130551), .bool false, .int .i64 (0), .bool false, .int .i64 (0), .bool false, .int .i64 (1367130551), .bool false, .int .i64 (2734261102), .bool false, .int .i64 (0), .bool false, .bool false, .int .i64 (2)]], [], .tup [.agg [.int .i64 (1), .int .i64 (0), .int .i64 (0), .int .i64 (256), .nils], .int .i64 (0)], []⟩
def mh105_3 : RowH := ⟨[.agg [.int .i64 (1), .int .i64 (256), .int .i64 (0), .int .i64 (0), .nils, .int .i64 (-852282572), .bool false, .int .i64 (0), .bool false, .int .i64 (4294967296), .bool false, .int .i64 (0), .bool false, .int .i64 (0), .bool false, .int .i64 (0), .bool false, .int .i64 (0), .bool false, .int .i64 (1367130551), .bool false, .int .i64 (2734261102), .bool false, .int .i64 (1), .bool false, .bool false, .int .i64 (2)]], [], .tup [.agg [.int .i64 (1), .int .i64 (-51), .int .i64 (0), .int .i64 (256), .nils], .int .i64 (0)], []⟩
def mh105_4 : RowH := ⟨[.agg [.int .i64 (1), .int .i64 (256), .int .i64 (0), .int .i64 (0), .nils, .int .i64 (852282572), .bool false, .int .i64 (0), .bool false, .int .i64 (4294967296), .bool false, .int .i64 (0), .bool false, .int .i64 (0), .bool false, .int .i64 (0), .bool false, .int .i64 (0), .bool false, .int .i64 (1367130551), .bool false, .int .i64 (2734261102), .bool false, .int .i64 (1), .bool false, .bool false, .int .i64 (1)]], [], .tup [.agg [.int .i64 (1), .int .i64 (51), .int .i64 (0), .int .i64 (256), .nils], .int .i64 (0)], []⟩
def mh105_5 : RowH := ⟨[.agg [.int .i64 (1), .int .i64 (256), .int .i64 (0), .int .i64 (0), .nils, .int .i64 (0), .bool false, .int .i64 (0), .bool false, .int .i64 (4294967296), .bool false, .int .i64 (0), .bool false, .int .i64 (0), .bool false, .int .i64 (0), .bool false, .int .i64 (0), .bool false, .int .i64 (1367130551), .bool false, .int .i64 (2734261102), .bool false, .int .i64 (1), .bool false, .bool false, .int .i64 (1)]], [], .tup [.agg [.int .i64 (1), .int .i64 (0), .int .i64 (0), .int .i64 (256), .nils], .int .i64 (0)], []⟩
theorem mk105_0 : ranHB ftc ttc ntc ot7 1000000 200 105 mh105_0 = true := by kernel_rfl
theorem mk105_1 : ranHB ftc ttc ntc ot7 1000000 200 105 mh105_1 = true := by kernel_rfl
theorem mk105_2 : ranHB ftc ttc ntc ot7 1000000 200 105 mh105_2 = true := by kernel_rfl
theorem mk105_3 : ranHB ftc ttc ntc ot7 1000000 200 105 mh105_3 = true := by kernel_rfl
theorem mk105_4 : ranHB ftc ttc ntc ot7 1000000 200 105 mh105_4 = true := by kernel_rfl
theorem mk105_5 : ranHB ftc ttc ntc ot7 1000000 200 105 mh105_5 = true := by kernel_rfl
noncomputable def mt105 : SumF := heapS rhoA (memoH [mh105_0, mh105_1, mh105_2, mh105_3, mh105_4, mh105_5])
theorem sum105 : SumOk Go.Proofs.Tryz.prog 105 mt105 := sumOk_memoH mixed ftok ttok ntok ot7_ok (lf := 1000000) (m := 200) (by
  intro r hr
  rcases List.mem_cons.1 hr with rfl | hr
  · exact mk105_0
  rcases List.mem_cons.1 hr with rfl | hr
  · exact mk105_1
  rcases List.mem_cons.1 hr with rfl | hr
  · exact mk105_2
  rcases List.mem_cons.1 hr with rfl | hr
  · exact mk105_3
  rcases List.mem_cons.1 hr with rfl | hr
  · exact mk105_4
  rcases List.mem_cons.1 hr with rfl | hr
  · exact mk105_5
  cases hr)
end Go.VM

namespace Go.VM
open Go
set_option maxRecDepth 1000000
def mh184_0 : RowH := ⟨[.agg [.int .i64 (1), .int .i64 (256), .int .i64 (0), .int .i64 (0), .nils], .agg [.int .i64 (0), .bool false, .int .i64 (0), .bool false, .int .i64 (4294967296), .bool false, .int .i64 (0), .bool false]], [], .tup [.agg [.int .i64 (1), .int .i64 (0), .int .i64 (0), .int .i64 (256), .nils], .int .i64 (0)], []⟩
def mh184_1 : RowH := ⟨[.agg [.int .i64 (2), .int .i64 (0), .int .i64 (256), .int .i64 (256), .nils], .agg [.int .i64 (8589934592), .bool false, .int .i64 (0), .bool false, .int .i64 (4294967296), .bool false, .int .i64 (0), .bool false]], [], .tup [.agg [.int .i64 (2), .int .i64 (512), .int .i64 (0), .int .i64 (0), .slice 0 2 0 4 4 false], .int .i64 (0)], [some (.arr 2 [[.int .i64 (256), .int .i64 (-256)], [.int .i64 (768), .int .i64 (-256)], [.int .i64 (768), .int .i64 (256)], [.int .i64 (256), .int .i64 (256)]])]⟩
def mh184_2 : RowH := ⟨[.agg [.int .i64 (1), .int .i64 (256), .int .i64 (0), .int .i64 (0), .nils], .agg [.int .i64 (-852282572), .bool false, .int .i64 (0), .bool false, .int .i64 (4294967296), .bool false, .int .i64 (0), .bool false]], [], .tup [.agg [.int .i64 (1), .int .i64 (-51), .int .i64 (0), .int .i64 (256), .nils], .int .i64 (0)], []⟩
def mh184_3 : RowH := ⟨[.agg [.int .i64 (1), .int .i64 (256), .int .i64 (0), .int .i64 (0), .nils], .agg [.int .i64 (852282572), .bool false, .int .i64 (0), .bool false, .int .i64 (4294967296), .bool false, .int .i64 (0), .bool false]], [], .tup [.agg [.int .i64 (1), .int .i64 (51), .int .i64 (0), .int .i64 (256), .nils], .int .i64 (0)], []⟩
theorem mk184_0 : ranHB ftc ttc ntc ot7 1000000 200 184 mh184_0 = true := by kernel_rfl
theorem mk184_1 : ranHB ftc ttc ntc ot7 1000000 200 184 mh184_1 = true := by kernel_rfl
theorem mk184_2 : ranHB ftc ttc ntc ot7 1000000 200 184 mh184_2 = true := by kernel_rfl
theorem mk184_3 : ranHB ftc ttc ntc ot7 1000000 200 184 mh184_3 = true := by kernel_rfl
noncomputable def mt184 : SumF := heapS rhoA (memoH [mh184_0, mh184_1, mh184_2, mh184_3])
theorem sum184 : SumOk Go.Proofs.Tryz.prog 184 mt184 := sumOk_memoH mixed ftok ttok ntok ot7_ok (lf := 1000000) (m := 200) (by
  intro r hr
  rcases List.mem_cons.1 hr with rfl | hr
  · exact mk184_0
  rcases List.mem_cons.1 hr with rfl | hr
  · exact mk184_1
  rcases List.mem_cons.1 hr with rfl | hr
  · exact mk184_2
  rcases List.mem_cons.1 hr with rfl | hr
  · exact mk184_3
  cases hr)
end Go.VM

namespace Go.VM
open Go
set_option maxRecDepth 1000000
def mh349_0 : RowH := ⟨[.agg [.int .i64 (1), .int .i64 (0), .int .i64 (0), .int .i64 (256), .nils]], [], .int .i64 (0), []⟩
def mh349_1 : RowH := ⟨[.agg [.int .i64 (2), .int .i64 (512), .int .i64 (0), .int .i64 (0), .slice 0 2 0 4 4 false]], [.arr 2 [[.int .i64 (256), .int .i64 (-256)], [.int .i64 (768), .int .i64 (-256)], [.int .i64 (768), .int .i64 (256)], [.int .i64 (256), .int .i64 (256)]]], .int .i64 (0), [none]⟩
def mh349_2 : RowH := ⟨[.agg [.int .i64 (1), .int .i64 (-51), .int .i64 (0), .int .i64 (256), .nils]], [], .int .i64 (0), []⟩
def mh349_3 : RowH := ⟨[.agg [.int .i64 (1), .int .i64 (51), .int .i64 (0), .int .i64 (256), .nils]], [], .int .i64 (0), []⟩
theorem mk349_0 : ranHB ftc ttc ntc ot7 1000000 200 349 mh349_0 = true := by kernel_rfl
theorem mk349_1 : ranHB ftc ttc ntc ot7 1000000 200 349 mh349_1 = true := by kernel_rfl
theorem mk349_2 : ranHB ftc ttc ntc ot7 1000000 200 349 mh349_2 = true := by kernel_rfl
theorem mk349_3 : ranHB ftc ttc ntc ot7 1000000 200 349 mh349_3 = true := by kernel_rfl
noncomputable def mt349 : SumF := heapS rhoA (memoH [mh349_0, mh349_1, mh349_2, mh349_3])
theorem sum349 : SumOk Go.Proofs.Tryz.prog 349 mt349 := sumOk_memoH mixed ftok ttok ntok ot7_ok (lf := 1000000) (m := 200) (by
  intro r hr
  rcases List.mem_cons.1 hr with rfl | hr
  · exact mk349_0
  rcases List.mem_cons.1 hr with rfl | hr
  · exact mk349_1
  rcases List.mem_cons.1 hr with rfl | hr
  · exact mk349_2
  rcases List.mem_cons.1 hr with rfl | hr
  · exact mk349_3
  cases hr)
end Go.VM

namespace Go.VM
open Go
set_option maxRecDepth 1000000
def mh263_0 : RowH := ⟨[.agg [.int .i64 (1), .int .i64 (0), .int .i64 (0), .int .i64 (256), .nils]], [], .iface 386 (.agg [.int .i64 (0), .int .i64 (0), .int .i64 (256)]), []⟩
def mh263_1 : RowH := ⟨[.agg [.int .i64 (2), .int .i64 (512), .int .i64 (0), .int .i64 (0), .slice 0 2 0 4 4 false]], [.arr 2 [[.int .i64 (256), .int .i64 (-256)], [.int .i64 (768), .int .i64 (-256)], [.int .i64 (768), .int .i64 (256)], [.int .i64 (256), .int .i64 (256)]]], .iface 391 (.agg [.slice 0 2 0 4 4 false]), [none]⟩
def mh263_2 : RowH := ⟨[.agg [.int .i64 (1), .int .i64 (-51), .int .i64 (0), .int .i64 (256), .nils]], [], .iface 386 (.agg [.int .i64 (-51), .int .i64 (0), .int .i64 (256)]), []⟩
def mh263_3 : RowH := ⟨[.agg [.int .i64 (1), .int .i64 (51), .int .i64 (0), .int .i64 (256), .nils]], [], .iface 386 (.agg [.int .i64 (51), .int .i64 (0), .int .i64 (256)]), []⟩
theorem mk263_0 : ranHB ftc ttc ntc ot7 1000000 200 263 mh263_0 = true := by kernel_rfl
theorem mk263_1 : ranHB ftc ttc ntc ot7 1000000 200 263 mh263_1 = true := by kernel_rfl
theorem mk263_2 : ranHB ftc ttc ntc ot7 1000000 200 263 mh263_2 = true := by kernel_rfl
theorem mk263_3 : ranHB ftc ttc ntc ot7 1000000 200 263 mh263_3 = true := by kernel_rfl
noncomputable def mt263 : SumF := heapS rhoA (memoH [mh263_0, mh263_1, mh263_2, mh263_3])
theorem sum263 : SumOk Go.Proofs.Tryz.prog 263 mt263 := sumOk_memoH mixed ftok ttok ntok ot7_ok (lf := 1000000) (m := 200) (by
  intro r hr
  rcases List.mem_cons.1 hr with rfl | hr
  · exact mk263_0
  rcases List.mem_cons.1 hr with rfl | hr
  · exact mk263_1
  rcases List.mem_cons.1 hr with rfl | hr
  · exact mk263_2
  rcases List.mem_cons.1 hr with rfl | hr
  · exact mk263_3
  cases hr)
end Go.VM

namespace Go.VM
open Go
noncomputable def ot8 : OT := (.node (.node (.node (.node (.node (.node .nil none (.node (.node .nil (some (pureS S159)) .nil) none .nil)) none (.node (.node (.node (.node .nil (some (pureS S271)) .nil) none .nil) none .nil) none .nil)) none (.node (.node (.node (.node (.node .nil (some mt263) .nil) none .nil) none .nil) none .nil) none (.node (.node .nil none (.node (.node .nil (some (pureS S343)) .nil) none .nil)) none .nil))) none (.node (.node (.node .nil none (.node (.node .nil (some (pureS S163)) .nil) none .nil)) none (.node (.node .nil none (.node (.node .nil (some (pureS S339)) .nil) none .nil)) none (.node (.node .nil none (.node .nil (some (pureS S435)) .nil)) none .nil))) none (.node (.node (.node .nil none (.node (.node .nil (some (pureS S331)) .nil) none .nil)) none .nil) none (.node (.node (.node .nil none (.node .nil (some (pureS overS)) .nil)) none (.node (.node .nil (some (pureS S347)) .nil) none .nil)) none .nil)))) none (.node (.node .nil none (.node (.node (.node (.node (.node .nil (some (pureS S265)) .nil) none .nil) none .nil) none (.node (.node .nil none (.node .nil (some (pureS S425)) .nil)) (some mt105) .nil)) none (.node (.node .nil none (.node (.node .nil (some (pureS S345)) .nil) none .nil)) none (.node (.node .nil none (.node .nil (some mt441) .nil)) none (.node .nil (some (pureS S249)) .nil))))) none (.node (.node .nil none (.node (.node .nil none (.node (.node .nil (some (pureS S341)) .nil) none .nil)) none .nil)) none (.node (.node (.node (.node (.node .nil (some (pureS S269)) .nil) none .nil) none .nil) none .nil) none (.node (.node (.node .nil (some (pureS (Scmp .i64))) .nil) none (.node (.node .nil (some mt349) .nil) none .nil)) none .nil))))) none (.node (.node (.node (.node (.node .nil none (.node (.node .nil (some (pureS S160)) .nil) none (.node (.node .nil (some (pureS S352)) .nil) none .nil))) none (.node (.node .nil (some (pureS S80)) .nil) none (.node (.node .nil none (.node .nil (some (pureS S432)) .nil)) none .nil))) none (.node (.node (.node (.node (.node .nil (some (pureS S264)) .nil) none .nil) none .nil) none .nil) none (.node .nil none (.node (.node .nil (some mt184) .nil) none .nil)))) none (.node (.node (.node .nil (some (pureS (constS (.bool true)))) (.node (.node .nil (some (pureS S164)) .nil) none .nil)) none (.node (.node .nil none (.node (.node .nil (some (pureS S340)) .nil) none .nil)) none (.node .nil none (.node .nil (some (pureS S244)) .nil)))) none (.node (.node (.node (.node (.node .nil (some (pureS S268)) .nil) none .nil) none .nil) none .nil) none (.node (.node .nil none (.node (.node .nil (some (pureS S348)) .nil) none .nil)) none .nil)))) none (.node (.node (.node (.node (.node (.node (.node .nil (some (pureS S258)) .nil) none (.node .nil (some (pureS S386)) .nil)) none .nil) none (.node (.node .nil (some (pureS S162)) .nil) none .nil)) none .nil) none (.node (.node (.node .nil none (.node (.node .nil (some (pureS S330)) .nil) none .nil)) none (.node .nil none (.node (.node .nil (some (pureS S362)) .nil) none .nil))) none (.node (.node (.node (.node .nil (some (orS [368])) .nil) none .nil) none (.node (.node .nil (some (pureS S346)) .nil) none .nil)) none (.node .nil none (.node .nil (some (pureS S250)) .nil))))) none (.node (.node .nil none (.node (.node .nil none (.node (.node .nil (some (pureS S342)) .nil) none .nil)) none .nil)) none (.node (.node (.node .nil none (.node .nil none (.node .nil (some (pureS (Scmp .u64))) .nil))) none (.node (.node .nil none (.node .nil (some (pureS S430)) .nil)) none .nil)) none (.node (.node (.node .nil (some (pureS S158)) .nil) none (.node (.node .nil (some (pureS S350)) .nil) none .nil)) none .nil))))))
theorem ot8_ok : OTok Go.Proofs.Tryz.prog ot8 := otok_of (l := [(36, (pureS (constS (.bool true)))), (80, (pureS S80)), (105, mt105), (157, (pureS (Scmp .i64))), (158, (pureS S158)), (159, (pureS S159)), (160, (pureS S160)), (162, (pureS S162)), (163, (pureS S163)), (164, (pureS S164)), (184, mt184), (244, (pureS S244)), (249, (pureS S249)), (250, (pureS S250)), (258, (pureS S258)), (263, mt263), (264, (pureS S264)), (265, (pureS S265)), (268, (pureS S268)), (269, (pureS S269)), (271, (pureS S271)), (282, (orS [368])), (330, (pureS S330)), (331, (pureS S331)), (339, (pureS S339)), (340, (pureS S340)), (341, (pureS S341)), (342, (pureS S342)), (343, (pureS S343)), (345, (pureS S345)), (346, (pureS S346)), (347, (pureS S347)), (348, (pureS S348)), (349, mt349), (350, (pureS S350)), (352, (pureS S352)), (362, (pureS S362)), (386, (pureS S386)), (411, (pureS overS)), (425, (pureS S425)), (430, (pureS S430)), (432, (pureS S432)), (435, (pureS S435)), (441, mt441), (462, (pureS (Scmp .u64)))]) ftok (by rfl) (by rfl) (by
  intro p hp
  rcases List.mem_cons.1 hp with rfl | hp
  · exact sum36
  rcases List.mem_cons.1 hp with rfl | hp
  · exact sum80
  rcases List.mem_cons.1 hp with rfl | hp
  · exact sum105
  rcases List.mem_cons.1 hp with rfl | hp
  · exact sum157
  rcases List.mem_cons.1 hp with rfl | hp
  · exact sum158
  rcases List.mem_cons.1 hp with rfl | hp
  · exact sum159
  rcases List.mem_cons.1 hp with rfl | hp
  · exact sum160
  rcases List.mem_cons.1 hp with rfl | hp
  · exact sum162
  rcases List.mem_cons.1 hp with rfl | hp
  · exact sum163
  rcases List.mem_cons.1 hp with rfl | hp
  · exact sum164
  rcases List.mem_cons.1 hp with rfl | hp
  · exact sum184
  rcases List.mem_cons.1 hp with rfl | hp
  · exact sum244
  rcases List.mem_cons.1 hp with rfl | hp
  · exact sum249
  rcases List.mem_cons.1 hp with rfl | hp
  · exact sum250
  rcases List.mem_cons.1 hp with rfl | hp
  · exact sum258
  rcases List.mem_cons.1 hp with rfl | hp
  · exact sum263
  rcases List.mem_cons.1 hp with rfl | hp
  · exact sum264
  rcases List.mem_cons.1 hp with rfl | hp
  · exact sum265
  rcases List.mem_cons.1 hp with rfl | hp
  · exact sum268
  rcases List.mem_cons.1 hp with rfl | hp
  · exact sum269
  rcases List.mem_cons.1 hp with rfl | hp
  · exact sum271
  rcases List.mem_cons.1 hp with rfl | hp
  · exact sum282
  rcases List.mem_cons.1 hp with rfl | hp
  · exact sum330
  rcases List.mem_cons.1 hp with rfl | hp
  · exact sum331
  rcases List.mem_cons.1 hp with rfl | hp
  · exact sum339
  rcases List.mem_cons.1 hp with rfl | hp
  · exact sum340
  rcases List.mem_cons.1 hp with rfl | hp
  · exact sum341
  rcases List.mem_cons.1 hp with rfl | hp
  · exact sum342
  rcases List.mem_cons.1 hp with rfl | hp
  · exact sum343
  rcases List.mem_cons.1 hp with rfl | hp
  · exact sum345
  rcases List.mem_cons.1 hp with rfl | hp
  · exact sum346
  rcases List.mem_cons.1 hp with rfl | hp
  · exact sum347
  rcases List.mem_cons.1 hp with rfl | hp
  · exact sum348
  rcases List.mem_cons.1 hp with rfl | hp
  · exact sum349
  rcases List.mem_cons.1 hp with rfl | hp
  · exact sum350
  rcases List.mem_cons.1 hp with rfl | hp
  · exact sum352
  rcases List.mem_cons.1 hp with rfl | hp
  · exact sum362
  rcases List.mem_cons.1 hp with rfl | hp
  · exact sum386
  rcases List.mem_cons.1 hp with rfl | hp
  · exact sum411
  rcases List.mem_cons.1 hp with rfl | hp
  · exact sum425
  rcases List.mem_cons.1 hp with rfl | hp
  · exact sum430
  rcases List.mem_cons.1 hp with rfl | hp
  · exact sum432
  rcases List.mem_cons.1 hp with rfl | hp
  · exact sum435
  rcases List.mem_cons.1 hp with rfl | hp
  · exact sum441
  rcases List.mem_cons.1 hp with rfl | hp
  · exact sum462
  cases hp)
end Go.VM

