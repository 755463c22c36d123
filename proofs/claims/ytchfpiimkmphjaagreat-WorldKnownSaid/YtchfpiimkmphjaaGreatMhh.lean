/- A part of the proof: Mhh. No condition. -/
import Derived.Test.YtchfpiimkmphjaaGreatMhg
import Derived.Test.YtchfpiimkmphjaaGreatVmPb
import Derived.KernelRfl
namespace Go.VM
open Go
set_option maxRecDepth 1000000
def mh40_0 : RowH := ⟨[.ptr 0 1 0 0, .agg [.int .i64 (-600), .int .i64 (0)], .agg [.int .i64 (600), .int .i64 (0)]], [.arr 1 [[.ptr 1 14 0 0]], .arr 14 [[.ptr 2 2 0 0, .ptr 4 1 0 0, .int .i64 (0), .bool false, .int .i64 (0), .bool false, .int .i64 (67108864), .bool false, .int .i64 (3), .int .i64 (4), .slice 6 27 0 3 3 true, .slice 7 16 0 1 1 false, .int .i64 (0), .int .i64 (2)]], .arr 2 [[.int .u64 (7), .slice 3 1 0 3 3 true]], .arr 1 [[.int .i64 (1)], [.int .i64 (1)], [.int .i64 (2)]], .arr 1 [[.map 5]], .map [(.int .i64 (0), .agg [.int .i64 (-256), .int .i64 (-256), .int .i64 (256), .int .i64 (256)]), (.int .i64 (1), .agg [.int .i64 (256), .int .i64 (-256), .int .i64 (768), .int .i64 (256)]), (.int .i64 (2), .agg [.int .i64 (-256), .int .i64 (-256), .int .i64 (256), .int .i64 (256)])], .arr 27 [[.int .i64 (1), .int .i64 (256), .int .i64 (0), .int .i64 (0), .nils, .int .i64 (0), .bool false, .int .i64 (0), .bool false, .int .i64 (4294967296), .bool false, .int .i64 (0), .bool false, .int .i64 (1367130551), .bool false, .int .i64 (0), .bool false, .int .i64 (0), .bool false, .int .i64 (1367130551), .bool false, .int .i64 (2734261102), .bool false, .int .i64 (0), .bool false, .bool false, .int .i64 (2)], [.int .i64 (2), .int .i64 (0), .int .i64 (256), .int .i64 (256), .nils, .int .i64 (8589934592), .bool false, .int .i64 (0), .bool false, .int .i64 (4294967296), .bool false, .int .i64 (0), .bool false, .int .i64 (0), .bool false, .int .i64 (0), .bool false, .int .i64 (0), .bool false, .int .i64 (0), .bool false, .int .i64 (0), .bool false, .int .i64 (0), .bool false, .bool false, .int .i64 (1)], [.int .i64 (1), .int .i64 (256), .int .i64 (0), .int .i64 (0), .nils, .int .i64 (0), .bool false, .int .i64 (0), .bool false, .int .i64 (4294967296), .bool false, .int .i64 (0), .bool false, .int .i64 (0), .bool false, .int .i64 (0), .bool false, .int .i64 (0), .bool false, .int .i64 (1367130551), .bool false, .int .i64 (2734261102), .bool false, .int .i64 (0), .bool false, .bool false, .int .i64 (1)]], .arr 16 [[.int .i64 (2), .int .i64 (1), .int .i64 (0), .int .i64 (1), .int .i64 (0), .int .i64 (0), .int .i64 (0), .bool false, .int .i64 (0), .bool false, .int .i64 (0), .bool false, .int .i64 (0), .bool false, .int .i64 (0), .bool false]]], .tup [.agg [.int .i64 (0), .int .i64 (1)], .agg [.bool true, .int .i64 (1231223958), .bool false, .int .i64 (-4294967296), .bool false, .int .i64 (0), .bool false], .bool true], [none, none, none, none, none, none, none, none]⟩
theorem mk40_0 : ranHB ftc ttc ntc ot11 1000000 200 40 mh40_0 = true := by kernel_rfl
noncomputable def mt40 : SumF := heapS rhoA (memoH [mh40_0])
theorem sum40 : SumOk Go.Proofs.Tryz.prog 40 mt40 := sumOk_memoH mixed ftok ttok ntok ot11_ok (lf := 1000000) (m := 200) (by
  intro r hr
  rcases List.mem_cons.1 hr with rfl | hr
  · exact mk40_0
  cases hr)
end Go.VM

namespace Go.VM
open Go
set_option maxRecDepth 1000000
def mh133_0 : RowH := ⟨[.agg [.int .i64 (1), .int .i64 (256), .int .i64 (0), .int .i64 (0), .nils], .agg [.int .i64 (0), .bool false, .int .i64 (0), .bool false, .int .i64 (4294967296), .bool false, .int .i64 (0), .bool false], .int .i64 (1), .bool true], [], .tup [.agg [.int .i64 (1), .int .i64 (256), .int .i64 (0), .int .i64 (0), .slice 0 2 0 0 0 true, .int .i64 (0), .bool false, .int .i64 (0), .bool false, .int .i64 (4294967296), .bool false, .int .i64 (0), .bool false, .int .i64 (0), .bool false, .int .i64 (0), .bool false, .int .i64 (0), .bool false, .int .i64 (1367130551), .bool false, .int .i64 (2734261102), .bool false, .int .i64 (0), .bool false, .bool false, .int .i64 (1)], .int .i64 (0)], [some (.arr 2 [])]⟩
def mh133_1 : RowH := ⟨[.agg [.int .i64 (2), .int .i64 (0), .int .i64 (256), .int .i64 (256), .nils], .agg [.int .i64 (8589934592), .bool false, .int .i64 (0), .bool false, .int .i64 (4294967296), .bool false, .int .i64 (0), .bool false], .int .i64 (0), .bool false], [], .tup [.agg [.int .i64 (2), .int .i64 (0), .int .i64 (256), .int .i64 (256), .slice 0 2 0 0 0 true, .int .i64 (8589934592), .bool false, .int .i64 (0), .bool false, .int .i64 (4294967296), .bool false, .int .i64 (0), .bool false, .int .i64 (0), .bool false, .int .i64 (0), .bool false, .int .i64 (0), .bool false, .int .i64 (0), .bool false, .int .i64 (0), .bool false, .int .i64 (0), .bool false, .bool false, .int .i64 (1)], .int .i64 (0)], [some (.arr 2 [])]⟩
theorem mk133_0 : ranHB ftc ttc ntc ot11 1000000 200 133 mh133_0 = true := by kernel_rfl
theorem mk133_1 : ranHB ftc ttc ntc ot11 1000000 200 133 mh133_1 = true := by kernel_rfl
noncomputable def mt133 : SumF := heapS rhoA (memoH [mh133_0, mh133_1])
theorem sum133 : SumOk Go.Proofs.Tryz.prog 133 mt133 := sumOk_memoH mixed ftok ttok ntok ot11_ok (lf := 1000000) (m := 200) (by
  intro r hr
  rcases List.mem_cons.1 hr with rfl | hr
  · exact mk133_0
  rcases List.mem_cons.1 hr with rfl | hr
  · exact mk133_1
  cases hr)
end Go.VM

namespace Go.VM
open Go
set_option maxRecDepth 1000000
def mh51_0 : RowH := ⟨[.ptr 0 1 0 0], [.arr 1 [[.ptr 1 14 0 0]], .arr 14 [[.ptr 2 2 0 0, .ptr 4 1 0 0, .int .i64 (0), .bool false, .int .i64 (0), .bool false, .int .i64 (67108864), .bool false, .int .i64 (3), .int .i64 (4), .slice 6 27 0 3 3 true, .nils, .int .i64 (0), .int .i64 (0)]], .arr 2 [[.int .u64 (7), .slice 3 1 0 3 3 true]], .arr 1 [[.int .i64 (1)], [.int .i64 (1)], [.int .i64 (1)]], .arr 1 [[.map 5]], .map [(.int .i64 (0), .agg [.int .i64 (-256), .int .i64 (-256), .int .i64 (256), .int .i64 (256)]), (.int .i64 (1), .agg [.int .i64 (256), .int .i64 (-256), .int .i64 (768), .int .i64 (256)]), (.int .i64 (2), .agg [.int .i64 (-256), .int .i64 (-256), .int .i64 (256), .int .i64 (256)])], .arr 27 [[.int .i64 (1), .int .i64 (256), .int .i64 (0), .int .i64 (0), .nils, .int .i64 (0), .bool false, .int .i64 (0), .bool false, .int .i64 (4294967296), .bool false, .int .i64 (0), .bool false, .int .i64 (0), .bool false, .int .i64 (0), .bool false, .int .i64 (0), .bool false, .int .i64 (1367130551), .bool false, .int .i64 (2734261102), .bool false, .int .i64 (0), .bool false, .bool false, .int .i64 (1)], [.int .i64 (2), .int .i64 (0), .int .i64 (256), .int .i64 (256), .nils, .int .i64 (8589934592), .bool false, .int .i64 (0), .bool false, .int .i64 (4294967296), .bool false, .int .i64 (0), .bool false, .int .i64 (0), .bool false, .int .i64 (0), .bool false, .int .i64 (0), .bool false, .int .i64 (0), .bool false, .int .i64 (0), .bool false, .int .i64 (0), .bool false, .bool false, .int .i64 (1)], [.int .i64 (1), .int .i64 (256), .int .i64 (0), .int .i64 (0), .nils, .int .i64 (0), .bool false, .int .i64 (0), .bool false, .int .i64 (4294967296), .bool false, .int .i64 (0), .bool false, .int .i64 (0), .bool false, .int .i64 (0), .bool false, .int .i64 (0), .bool false, .int .i64 (1367130551), .bool false, .int .i64 (2734261102), .bool false, .int .i64 (0), .bool false, .bool false, .int .i64 (1)]]], .slice 7 4 0 3 3 false, [none, none, none, none, none, none, none, some (.arr 4 [[.int .i64 (0), .int .i64 (1), .int .i64 (1), .int .i64 (1)], [.int .i64 (0), .int .i64 (1), .int .i64 (2), .int .i64 (1)], [.int .i64 (1), .int .i64 (1), .int .i64 (2), .int .i64 (1)]])]⟩
theorem mk51_0 : ranHB ftc ttc ntc ot11 1000000 200 51 mh51_0 = true := by kernel_rfl
noncomputable def mt51 : SumF := heapS rhoA (memoH [mh51_0])
theorem sum51 : SumOk Go.Proofs.Tryz.prog 51 mt51 := sumOk_memoH mixed ftok ttok ntok ot11_ok (lf := 1000000) (m := 200) (by
  intro r hr
  rcases List.mem_cons.1 hr with rfl | hr
  · exact mk51_0
  cases hr)
end Go.VM

namespace Go.VM
open Go
noncomputable def ot12 : OT := (.node (.node (.node (.node (.node (.node .nil none (.node (.node .nil (some (pureS S159)) .nil) none .nil)) none (.node (.node (.node (.node .nil (some (pureS S271)) .nil) none .nil) none .nil) none .nil)) none (.node (.node (.node (.node (.node .nil (some mt263) .nil) none .nil) none .nil) (some mt39) .nil) none (.node (.node .nil none (.node (.node .nil (some (pureS S343)) .nil) none .nil)) none .nil))) none (.node (.node (.node (.node .nil none (.node .nil (some mt195) .nil)) none (.node (.node .nil (some (pureS S163b)) .nil) none .nil)) none (.node (.node .nil none (.node (.node .nil (some (pureS S339)) .nil) none .nil)) (some mt51) (.node (.node .nil none (.node .nil (some (pureS S435)) .nil)) none .nil))) none (.node (.node (.node .nil none (.node (.node .nil (some (pureS S331)) .nil) none .nil)) none .nil) none (.node (.node (.node .nil none (.node .nil (some (pureS overS)) .nil)) none (.node (.node .nil (some (pureS S347)) .nil) none .nil)) none (.node .nil none (.node .nil (some mt251) .nil)))))) none (.node (.node .nil none (.node (.node (.node (.node (.node .nil (some (pureS S265)) .nil) none .nil) none .nil) none (.node (.node .nil none (.node .nil (some (pureS S425)) .nil)) (some mt105) (.node (.node .nil (some mt361) .nil) none .nil))) none (.node (.node .nil none (.node (.node .nil (some (pureS S345)) .nil) none .nil)) none (.node (.node .nil (some mt185) (.node .nil (some mt441) .nil)) none (.node .nil (some (pureS S249)) .nil))))) none (.node (.node (.node (.node (.node .nil (some mt133) .nil) none .nil) (some mt37) (.node .nil (some mt101) .nil)) none (.node (.node (.node (.node .nil (some mt277) .nil) none .nil) none (.node (.node .nil (some (pureS S341)) .nil) none .nil)) none .nil)) none (.node (.node (.node (.node (.node .nil (some (pureS S269)) .nil) none .nil) none .nil) none .nil) none (.node (.node (.node .nil (some (pureS (Scmp .i64))) .nil) none (.node (.node .nil (some mt349) .nil) (some mt221) .nil)) none (.node .nil (some mt125) .nil)))))) none (.node (.node (.node (.node (.node .nil none (.node (.node .nil (some (pureS S160)) .nil) none (.node (.node .nil (some (pureS S352)) .nil) none .nil))) none (.node (.node .nil (some (pureS S80)) .nil) none (.node (.node .nil none (.node .nil (some (pureS S432)) .nil)) none .nil))) none (.node (.node (.node (.node (.node .nil (some (pureS S264)) .nil) none .nil) none .nil) (some mt40) (.node .nil none (.node (.node .nil (some mt360) .nil) none .nil))) none (.node .nil none (.node (.node .nil (some mt184) .nil) none .nil)))) none (.node (.node (.node .nil (some (pureS (constS (.bool true)))) (.node (.node .nil (some (pureS S164)) .nil) none .nil)) none (.node (.node .nil none (.node (.node .nil (some (pureS S340)) .nil) none .nil)) none (.node .nil none (.node .nil (some (pureS S244)) .nil)))) none (.node (.node (.node (.node (.node .nil (some (pureS S268)) .nil) none .nil) none (.node .nil (some mt204) .nil)) none (.node (.node .nil (some mt172) .nil) none .nil)) none (.node (.node .nil none (.node (.node .nil (some (pureS S348)) .nil) (some mt220) .nil)) none (.node .nil (some mt124) .nil))))) none (.node (.node (.node (.node (.node (.node (.node .nil (some (pureS S258)) .nil) (some mt130) (.node .nil (some (pureS S386)) .nil)) none .nil) none (.node (.node .nil (some (pureS S162)) .nil) none .nil)) none .nil) none (.node (.node (.node .nil none (.node (.node .nil (some (pureS S330)) .nil) none .nil)) none (.node .nil (some mt106) (.node (.node .nil (some (pureS S362)) .nil) none .nil))) none (.node (.node (.node (.node .nil (some (orS [368])) .nil) none .nil) none (.node (.node .nil (some (pureS S346)) .nil) none .nil)) none (.node .nil none (.node .nil (some (pureS S250)) .nil))))) none (.node (.node .nil none (.node (.node .nil none (.node (.node .nil (some (pureS S342)) .nil) none .nil)) none .nil)) none (.node (.node (.node .nil none (.node .nil none (.node .nil (some (pureS (Scmp .u64))) .nil))) none (.node (.node .nil none (.node .nil (some (pureS S430)) .nil)) none .nil)) none (.node (.node (.node .nil (some (pureS S158)) .nil) none (.node (.node .nil (some (pureS S350)) .nil) none .nil)) none (.node .nil (some mt126) .nil)))))))
theorem ot12_ok : OTok Go.Proofs.Tryz.prog ot12 := otok_of (l := [(36, (pureS (constS (.bool true)))), (37, mt37), (39, mt39), (40, mt40), (51, mt51), (80, (pureS S80)), (101, mt101), (105, mt105), (106, mt106), (124, mt124), (125, mt125), (126, mt126), (130, mt130), (133, mt133), (157, (pureS (Scmp .i64))), (158, (pureS S158)), (159, (pureS S159)), (160, (pureS S160)), (162, (pureS S162)), (163, (pureS S163b)), (164, (pureS S164)), (172, mt172), (184, mt184), (185, mt185), (195, mt195), (204, mt204), (220, mt220), (221, mt221), (244, (pureS S244)), (249, (pureS S249)), (250, (pureS S250)), (251, mt251), (258, (pureS S258)), (263, mt263), (264, (pureS S264)), (265, (pureS S265)), (268, (pureS S268)), (269, (pureS S269)), (271, (pureS S271)), (277, mt277), (282, (orS [368])), (330, (pureS S330)), (331, (pureS S331)), (339, (pureS S339)), (340, (pureS S340)), (341, (pureS S341)), (342, (pureS S342)), (343, (pureS S343)), (345, (pureS S345)), (346, (pureS S346)), (347, (pureS S347)), (348, (pureS S348)), (349, mt349), (350, (pureS S350)), (352, (pureS S352)), (360, mt360), (361, mt361), (362, (pureS S362)), (386, (pureS S386)), (411, (pureS overS)), (425, (pureS S425)), (430, (pureS S430)), (432, (pureS S432)), (435, (pureS S435)), (441, mt441), (462, (pureS (Scmp .u64)))]) ftok (by rfl) (by rfl) (by
  intro p hp
  rcases List.mem_cons.1 hp with rfl | hp
  · exact sum36
  rcases List.mem_cons.1 hp with rfl | hp
  · exact sum37
  rcases List.mem_cons.1 hp with rfl | hp
  · exact sum39
  rcases List.mem_cons.1 hp with rfl | hp
  · exact sum40
  rcases List.mem_cons.1 hp with rfl | hp
  · exact sum51
  rcases List.mem_cons.1 hp with rfl | hp
  · exact sum80
  rcases List.mem_cons.1 hp with rfl | hp
  · exact sum101
  rcases List.mem_cons.1 hp with rfl | hp
  · exact sum105
  rcases List.mem_cons.1 hp with rfl | hp
  · exact sum106
  rcases List.mem_cons.1 hp with rfl | hp
  · exact sum124
  rcases List.mem_cons.1 hp with rfl | hp
  · exact sum125
  rcases List.mem_cons.1 hp with rfl | hp
  · exact sum126
  rcases List.mem_cons.1 hp with rfl | hp
  · exact sum130
  rcases List.mem_cons.1 hp with rfl | hp
  · exact sum133
  rcases List.mem_cons.1 hp with rfl | hp
  · exact sum157
  rcases List.mem_cons.1 hp with rfl | hp
  · exact sum158
  rcases List.mem_cons.1 hp with rfl | hp
  · exact sum159
  rcases List.mem_cons.1 hp with rfl | hp
  · exact sum160
  rcases List.mem_cons.1 hp with rfl | hp
  · exact sum162
  rcases List.mem_cons.1 hp with rfl | hp
  · exact sum163b
  rcases List.mem_cons.1 hp with rfl | hp
  · exact sum164
  rcases List.mem_cons.1 hp with rfl | hp
  · exact sum172
  rcases List.mem_cons.1 hp with rfl | hp
  · exact sum184
  rcases List.mem_cons.1 hp with rfl | hp
  · exact sum185
  rcases List.mem_cons.1 hp with rfl | hp
  · exact sum195
  rcases List.mem_cons.1 hp with rfl | hp
  · exact sum204
  rcases List.mem_cons.1 hp with rfl | hp
  · exact sum220
  rcases List.mem_cons.1 hp with rfl | hp
  · exact sum221
  rcases List.mem_cons.1 hp with rfl | hp
  · exact sum244
  rcases List.mem_cons.1 hp with rfl | hp
  · exact sum249
  rcases List.mem_cons.1 hp with rfl | hp
  · exact sum250
  rcases List.mem_cons.1 hp with rfl | hp
  · exact sum251
  rcases List.mem_cons.1 hp with rfl | hp
  · exact sum258
  rcases List.mem_cons.1 hp with rfl | hp
  · exact sum263
  rcases List.mem_cons.1 hp with rfl | hp
  · exact sum264
  rcases List.mem_cons.1 hp with rfl | hp
  · exact sum265
  rcases List.mem_cons.1 hp with rfl | hp
  · exact sum268
  rcases List.mem_cons.1 hp with rfl | hp
  · exact sum269
  rcases List.mem_cons.1 hp with rfl | hp
  · exact sum271
  rcases List.mem_cons.1 hp with rfl | hp
  · exact sum277
  rcases List.mem_cons.1 hp with rfl | hp
  · exact sum282
  rcases List.mem_cons.1 hp with rfl | hp
  · exact sum330
  rcases List.mem_cons.1 hp with rfl | hp
  · exact sum331
  rcases List.mem_cons.1 hp with rfl | hp
  · exact sum339
  rcases List.mem_cons.1 hp with rfl | hp
  · exact sum340
  rcases List.mem_cons.1 hp with rfl | hp
  · exact sum341
  rcases List.mem_cons.1 hp with rfl | hp
  · exact sum342
  rcases List.mem_cons.1 hp with rfl | hp
  · exact sum343
  rcases List.mem_cons.1 hp with rfl | hp
  · exact sum345
  rcases List.mem_cons.1 hp with rfl | hp
  · exact sum346
  rcases List.mem_cons.1 hp with rfl | hp
  · exact sum347
  rcases List.mem_cons.1 hp with rfl | hp
  · exact sum348
  rcases List.mem_cons.1 hp with rfl | hp
  · exact sum349
  rcases List.mem_cons.1 hp with rfl | hp
  · exact sum350
  rcases List.mem_cons.1 hp with rfl | hp
  · exact sum352
  rcases List.mem_cons.1 hp with rfl | hp
  · exact sum360
  rcases List.mem_cons.1 hp with rfl | hp
  · exact sum361
  rcases List.mem_cons.1 hp with rfl | hp
  · exact sum362
  rcases List.mem_cons.1 hp with rfl | hp
  · exact sum386
  rcases List.mem_cons.1 hp with rfl | hp
  · exact sum411
  rcases List.mem_cons.1 hp with rfl | hp
  · exact sum425
  rcases List.mem_cons.1 hp with rfl | hp
  · exact sum430
  rcases List.mem_cons.1 hp with rfl | hp
  · exact sum432
  rcases List.mem_cons.1 hp with rfl | hp
  · exact sum435
  rcases List.mem_cons.1 hp with rfl | hp
  · exact sum441
  rcases List.mem_cons.1 hp with rfl | hp
  · exact sum462
  cases hp)
end Go.VM

namespace Go.VM
open Go
set_option maxRecDepth 1000000
def mh46_0 : RowH := ⟨[.ptr 0 1 0 0], [.arr 1 [[.ptr 1 14 0 0]], .arr 14 [[.ptr 2 2 0 0, .ptr 4 1 0 0, .int .i64 (0), .bool false, .int .i64 (0), .bool false, .int .i64 (67108864), .bool false, .int .i64 (3), .int .i64 (4), .slice 6 27 0 3 3 true, .slice 7 16 0 1 1 false, .int .i64 (0), .int .i64 (2)]], .arr 2 [[.int .u64 (7), .slice 3 1 0 3 3 true]], .arr 1 [[.int .i64 (1)], [.int .i64 (1)], [.int .i64 (2)]], .arr 1 [[.map 5]], .map [(.int .i64 (0), .agg [.int .i64 (-256), .int .i64 (-256), .int .i64 (256), .int .i64 (256)]), (.int .i64 (1), .agg [.int .i64 (256), .int .i64 (-256), .int .i64 (768), .int .i64 (256)]), (.int .i64 (2), .agg [.int .i64 (-256), .int .i64 (-256), .int .i64 (256), .int .i64 (256)])], .arr 27 [[.int .i64 (1), .int .i64 (256), .int .i64 (0), .int .i64 (0), .nils, .int .i64 (0), .bool false, .int .i64 (0), .bool false, .int .i64 (4294967296), .bool false, .int .i64 (0), .bool false, .int .i64 (1367130551), .bool false, .int .i64 (0), .bool false, .int .i64 (0), .bool false, .int .i64 (1367130551), .bool false, .int .i64 (2734261102), .bool false, .int .i64 (0), .bool false, .bool false, .int .i64 (2)], [.int .i64 (2), .int .i64 (0), .int .i64 (256), .int .i64 (256), .nils, .int .i64 (8589934592), .bool false, .int .i64 (0), .bool false, .int .i64 (4294967296), .bool false, .int .i64 (0), .bool false, .int .i64 (0), .bool false, .int .i64 (0), .bool false, .int .i64 (0), .bool false, .int .i64 (0), .bool false, .int .i64 (0), .bool false, .int .i64 (0), .bool false, .bool false, .int .i64 (1)], [.int .i64 (1), .int .i64 (256), .int .i64 (0), .int .i64 (0), .nils, .int .i64 (0), .bool false, .int .i64 (0), .bool false, .int .i64 (4294967296), .bool false, .int .i64 (0), .bool false, .int .i64 (0), .bool false, .int .i64 (0), .bool false, .int .i64 (0), .bool false, .int .i64 (1367130551), .bool false, .int .i64 (2734261102), .bool false, .int .i64 (0), .bool false, .bool false, .int .i64 (1)]], .arr 16 [[.int .i64 (2), .int .i64 (1), .int .i64 (0), .int .i64 (1), .int .i64 (0), .int .i64 (0), .int .i64 (0), .bool false, .int .i64 (0), .bool false, .int .i64 (0), .bool false, .int .i64 (0), .bool false, .int .i64 (0), .bool false]]], .int .i64 (0), [none, some (.arr 14 [[.ptr 2 2 0 0, .ptr 4 1 0 0, .int .i64 (0), .bool false, .int .i64 (0), .bool false, .int .i64 (67108864), .bool false, .int .i64 (3), .int .i64 (4), .slice 6 27 0 3 3 true, .slice 7 16 0 1 1 false, .int .i64 (1), .int .i64 (2)]]), none, none, none, some (.map [(.int .i64 (0), .agg [.int .i64 (-307), .int .i64 (-256), .int .i64 (205), .int .i64 (256)]), (.int .i64 (1), .agg [.int .i64 (256), .int .i64 (-256), .int .i64 (768), .int .i64 (256)]), (.int .i64 (2), .agg [.int .i64 (-205), .int .i64 (-256), .int .i64 (307), .int .i64 (256)])]), some (.arr 27 [[.int .i64 (1), .int .i64 (256), .int .i64 (0), .int .i64 (0), .nils, .int .i64 (-852282572), .bool false, .int .i64 (0), .bool false, .int .i64 (4294967296), .bool false, .int .i64 (0), .bool false, .int .i64 (0), .bool false, .int .i64 (0), .bool false, .int .i64 (0), .bool false, .int .i64 (1367130551), .bool false, .int .i64 (2734261102), .bool false, .int .i64 (1), .bool false, .bool false, .int .i64 (2)], [.int .i64 (2), .int .i64 (0), .int .i64 (256), .int .i64 (256), .nils, .int .i64 (8589934592), .bool false, .int .i64 (0), .bool false, .int .i64 (4294967296), .bool false, .int .i64 (0), .bool false, .int .i64 (0), .bool false, .int .i64 (0), .bool false, .int .i64 (0), .bool false, .int .i64 (0), .bool false, .int .i64 (0), .bool false, .int .i64 (0), .bool false, .bool false, .int .i64 (1)], [.int .i64 (1), .int .i64 (256), .int .i64 (0), .int .i64 (0), .nils, .int .i64 (852282572), .bool false, .int .i64 (0), .bool false, .int .i64 (4294967296), .bool false, .int .i64 (0), .bool false, .int .i64 (0), .bool false, .int .i64 (0), .bool false, .int .i64 (0), .bool false, .int .i64 (1367130551), .bool false, .int .i64 (2734261102), .bool false, .int .i64 (1), .bool false, .bool false, .int .i64 (1)]]), none]⟩
def mh46_1 : RowH := ⟨[.ptr 0 1 0 0], [.arr 1 [[.ptr 1 14 0 0]], .arr 14 [[.ptr 2 2 0 0, .ptr 4 1 0 0, .int .i64 (0), .bool false, .int .i64 (0), .bool false, .int .i64 (67108864), .bool false, .int .i64 (3), .int .i64 (4), .slice 6 27 0 3 3 true, .nils, .int .i64 (0), .int .i64 (0)]], .arr 2 [[.int .u64 (1), .slice 3 1 0 3 3 true]], .arr 1 [[.int .i64 (1)], [.int .i64 (0)], [.int .i64 (0)]], .arr 1 [[.map 5]], .map [(.int .i64 (0), .agg [.int .i64 (-256), .int .i64 (-256), .int .i64 (256), .int .i64 (256)])], .arr 27 [[.int .i64 (1), .int .i64 (256), .int .i64 (0), .int .i64 (0), .nils, .int .i64 (0), .bool false, .int .i64 (0), .bool false, .int .i64 (4294967296), .bool false, .int .i64 (0), .bool false, .int .i64 (0), .bool false, .int .i64 (0), .bool false, .int .i64 (0), .bool false, .int .i64 (1367130551), .bool false, .int .i64 (2734261102), .bool false, .int .i64 (0), .bool false, .bool false, .int .i64 (1)], [.int .i64 (0), .int .i64 (0), .int .i64 (0), .int .i64 (0), .nils, .int .i64 (0), .bool false, .int .i64 (0), .bool false, .int .i64 (0), .bool false, .int .i64 (0), .bool false, .int .i64 (0), .bool false, .int .i64 (0), .bool false, .int .i64 (0), .bool false, .int .i64 (0), .bool false, .int .i64 (0), .bool false, .int .i64 (0), .bool false, .bool false, .int .i64 (0)], [.int .i64 (0), .int .i64 (0), .int .i64 (0), .int .i64 (0), .nils, .int .i64 (0), .bool false, .int .i64 (0), .bool false, .int .i64 (0), .bool false, .int .i64 (0), .bool false, .int .i64 (0), .bool false, .int .i64 (0), .bool false, .int .i64 (0), .bool false, .int .i64 (0), .bool false, .int .i64 (0), .bool false, .int .i64 (0), .bool false, .bool false, .int .i64 (0)]]], .int .i64 (0), [none, some (.arr 14 [[.ptr 2 2 0 0, .ptr 4 1 0 0, .int .i64 (0), .bool false, .int .i64 (0), .bool false, .int .i64 (67108864), .bool false, .int .i64 (3), .int .i64 (4), .slice 6 27 0 3 3 true, .nils, .int .i64 (1), .int .i64 (0)]]), none, none, none, some (.map [(.int .i64 (0), .agg [.int .i64 (-256), .int .i64 (-256), .int .i64 (256), .int .i64 (256)])]), some (.arr 27 [[.int .i64 (1), .int .i64 (256), .int .i64 (0), .int .i64 (0), .nils, .int .i64 (0), .bool false, .int .i64 (0), .bool false, .int .i64 (4294967296), .bool false, .int .i64 (0), .bool false, .int .i64 (0), .bool false, .int .i64 (0), .bool false, .int .i64 (0), .bool false, .int .i64 (1367130551), .bool false, .int .i64 (2734261102), .bool false, .int .i64 (1), .bool false, .bool false, .int .i64 (1)], [.int .i64 (0), .int .i64 (0), .int .i64 (0), .int .i64 (0), .nils, .int .i64 (0), .bool false, .int .i64 (0), .bool false, .int .i64 (0), .bool false, .int .i64 (0), .bool false, .int .i64 (0), .bool false, .int .i64 (0), .bool false, .int .i64 (0), .bool false, .int .i64 (0), .bool false, .int .i64 (0), .bool false, .int .i64 (0), .bool false, .bool false, .int .i64 (0)], [.int .i64 (0), .int .i64 (0), .int .i64 (0), .int .i64 (0), .nils, .int .i64 (0), .bool false, .int .i64 (0), .bool false, .int .i64 (0), .bool false, .int .i64 (0), .bool false, .int .i64 (0), .bool false, .int .i64 (0), .bool false, .int .i64 (0), .bool false, .int .i64 (0), .bool false, .int .i64 (0), .bool false, .int .i64 (0), .bool false, .bool false, .int .i64 (0)]])]⟩
theorem mk46_0 : ranHB ftc ttc ntc ot12 1000000 200 46 mh46_0 = true := by kernel_rfl
theorem mk46_1 : ranHB ftc ttc ntc ot12 1000000 200 46 mh46_1 = true := by kernel_rfl
noncomputable def mt46 : SumF := heapS rhoA (memoH [mh46_0, mh46_1])
theorem sum46 : SumOk Go.Proofs.Tryz.prog 46 mt46 := sumOk_memoH mixed ftok ttok ntok ot12_ok (lf := 1000000) (m := 200) (by
  intro r hr
  rcases List.mem_cons.1 hr with rfl | hr
  · exact mk46_0
  rcases List.mem_cons.1 hr with rfl | hr
  · exact mk46_1
  cases hr)
end Go.VM

namespace Go.VM
open Go
set_option maxRecDepth 1000000
def mh55_0 : RowH := ⟨[], [], .agg [.int .i64 (1), .int .i64 (256), .int .i64 (0), .int .i64 (0), .slice 0 2 0 0 0 true, .int .i64 (0), .bool false, .int .i64 (0), .bool false, .int .i64 (4294967296), .bool false, .int .i64 (0), .bool false, .int .i64 (0), .bool false, .int .i64 (0), .bool false, .int .i64 (0), .bool false, .int .i64 (1367130551), .bool false, .int .i64 (2734261102), .bool false, .int .i64 (0), .bool false, .bool false, .int .i64 (1)], [some (.arr 2 [])]⟩
theorem mk55_0 : ranHB ftc ttc ntc ot12 1000000 200 55 mh55_0 = true := by kernel_rfl
noncomputable def mt55 : SumF := heapS rhoA (memoH [mh55_0])
theorem sum55 : SumOk Go.Proofs.Tryz.prog 55 mt55 := sumOk_memoH mixed ftok ttok ntok ot12_ok (lf := 1000000) (m := 200) (by
  intro r hr
  rcases List.mem_cons.1 hr with rfl | hr
  · exact mk55_0
  cases hr)
end Go.VM

namespace Go.VM
open Go
set_option maxRecDepth 1000000
def mh56_0 : RowH := ⟨[], [], .agg [.int .i64 (2), .int .i64 (0), .int .i64 (256), .int .i64 (256), .slice 0 2 0 0 0 true, .int .i64 (8589934592), .bool false, .int .i64 (0), .bool false, .int .i64 (4294967296), .bool false, .int .i64 (0), .bool false, .int .i64 (0), .bool false, .int .i64 (0), .bool false, .int .i64 (0), .bool false, .int .i64 (0), .bool false, .int .i64 (0), .bool false, .int .i64 (0), .bool false, .bool false, .int .i64 (1)], [some (.arr 2 [])]⟩
theorem mk56_0 : ranHB ftc ttc ntc ot12 1000000 200 56 mh56_0 = true := by kernel_rfl
noncomputable def mt56 : SumF := heapS rhoA (memoH [mh56_0])
theorem sum56 : SumOk Go.Proofs.Tryz.prog 56 mt56 := sumOk_memoH mixed ftok ttok ntok ot12_ok (lf := 1000000) (m := 200) (by
  intro r hr
  rcases List.mem_cons.1 hr with rfl | hr
  · exact mk56_0
  cases hr)
end Go.VM

namespace Go.VM
open Go
noncomputable def ot13 : OT := (.node (.node (.node (.node (.node (.node .nil none (.node (.node .nil (some (pureS S159)) .nil) none .nil)) none (.node (.node (.node (.node .nil (some (pureS S271)) .nil) none .nil) none .nil) none .nil)) none (.node (.node (.node (.node (.node .nil (some mt263) .nil) none .nil) none .nil) (some mt39) .nil) none (.node (.node .nil none (.node (.node .nil (some (pureS S343)) .nil) none .nil)) (some mt55) .nil))) none (.node (.node (.node (.node .nil none (.node .nil (some mt195) .nil)) none (.node (.node .nil (some (pureS S163b)) .nil) none .nil)) none (.node (.node .nil none (.node (.node .nil (some (pureS S339)) .nil) none .nil)) (some mt51) (.node (.node .nil none (.node .nil (some (pureS S435)) .nil)) none .nil))) none (.node (.node (.node .nil none (.node (.node .nil (some (pureS S331)) .nil) none .nil)) none .nil) none (.node (.node (.node .nil none (.node .nil (some (pureS overS)) .nil)) none (.node (.node .nil (some (pureS S347)) .nil) none .nil)) none (.node .nil none (.node .nil (some mt251) .nil)))))) none (.node (.node .nil none (.node (.node (.node (.node (.node .nil (some (pureS S265)) .nil) none .nil) none .nil) none (.node (.node .nil none (.node .nil (some (pureS S425)) .nil)) (some mt105) (.node (.node .nil (some mt361) .nil) none .nil))) none (.node (.node .nil none (.node (.node .nil (some (pureS S345)) .nil) none .nil)) none (.node (.node .nil (some mt185) (.node .nil (some mt441) .nil)) none (.node .nil (some (pureS S249)) .nil))))) none (.node (.node (.node (.node (.node .nil (some mt133) .nil) none .nil) (some mt37) (.node .nil (some mt101) .nil)) none (.node (.node (.node (.node .nil (some mt277) .nil) none .nil) none (.node (.node .nil (some (pureS S341)) .nil) none .nil)) none .nil)) none (.node (.node (.node (.node (.node .nil (some (pureS S269)) .nil) none .nil) none .nil) none .nil) none (.node (.node (.node .nil (some (pureS (Scmp .i64))) .nil) none (.node (.node .nil (some mt349) .nil) (some mt221) .nil)) none (.node .nil (some mt125) .nil)))))) none (.node (.node (.node (.node (.node .nil none (.node (.node .nil (some (pureS S160)) .nil) none (.node (.node .nil (some (pureS S352)) .nil) none .nil))) none (.node (.node .nil (some (pureS S80)) .nil) none (.node (.node .nil none (.node .nil (some (pureS S432)) .nil)) none .nil))) none (.node (.node (.node (.node (.node .nil (some (pureS S264)) .nil) none .nil) none .nil) (some mt40) (.node .nil none (.node (.node .nil (some mt360) .nil) none .nil))) none (.node .nil (some mt56) (.node (.node .nil (some mt184) .nil) none .nil)))) none (.node (.node (.node .nil (some (pureS (constS (.bool true)))) (.node (.node .nil (some (pureS S164)) .nil) none .nil)) none (.node (.node .nil none (.node (.node .nil (some (pureS S340)) .nil) none .nil)) none (.node .nil none (.node .nil (some (pureS S244)) .nil)))) none (.node (.node (.node (.node (.node .nil (some (pureS S268)) .nil) none .nil) none (.node .nil (some mt204) .nil)) none (.node (.node .nil (some mt172) .nil) none .nil)) none (.node (.node .nil none (.node (.node .nil (some (pureS S348)) .nil) (some mt220) .nil)) none (.node .nil (some mt124) .nil))))) none (.node (.node (.node (.node (.node (.node (.node .nil (some (pureS S258)) .nil) (some mt130) (.node .nil (some (pureS S386)) .nil)) none .nil) none (.node (.node .nil (some (pureS S162)) .nil) none .nil)) none .nil) none (.node (.node (.node .nil none (.node (.node .nil (some (pureS S330)) .nil) none .nil)) none (.node .nil (some mt106) (.node (.node .nil (some (pureS S362)) .nil) none .nil))) none (.node (.node (.node (.node .nil (some (orS [368])) .nil) none .nil) none (.node (.node .nil (some (pureS S346)) .nil) none .nil)) none (.node .nil none (.node .nil (some (pureS S250)) .nil))))) none (.node (.node .nil none (.node (.node .nil none (.node (.node .nil (some (pureS S342)) .nil) none .nil)) none .nil)) none (.node (.node (.node .nil none (.node .nil none (.node .nil (some (pureS (Scmp .u64))) .nil))) (some mt46) (.node (.node .nil none (.node .nil (some (pureS S430)) .nil)) none .nil)) none (.node (.node (.node .nil (some (pureS S158)) .nil) none (.node (.node .nil (some (pureS S350)) .nil) none .nil)) none (.node .nil (some mt126) .nil)))))))
theorem ot13_ok : OTok Go.Proofs.Tryz.prog ot13 := otok_of (l := [(36, (pureS (constS (.bool true)))), (37, mt37), (39, mt39), (40, mt40), (46, mt46), (51, mt51), (55, mt55), (56, mt56), (80, (pureS S80)), (101, mt101), (105, mt105), (106, mt106), (124, mt124), (125, mt125), (126, mt126), (130, mt130), (133, mt133), (157, (pureS (Scmp .i64))), (158, (pureS S158)), (159, (pureS S159)), (160, (pureS S160)), (162, (pureS S162)), (163, (pureS S163b)), (164, (pureS S164)), (172, mt172), (184, mt184), (185, mt185), (195, mt195), (204, mt204), (220, mt220), (221, mt221), (244, (pureS S244)), (249, (pureS S249)), (250, (pureS S250)), (251, mt251), (258, (pureS S258)), (263, mt263), (264, (pureS S264)), (265, (pureS S265)), (268, (pureS S268)), (269, (pureS S269)), (271, (pureS S271)), (277, mt277), (282, (orS [368])), (330, (pureS S330)), (331, (pureS S331)), (339, (pureS S339)), (340, (pureS S340)), (341, (pureS S341)), (342, (pureS S342)), (343, (pureS S343)), (345, (pureS S345)), (346, (pureS S346)), (347, (pureS S347)), (348, (pureS S348)), (349, mt349), (350, (pureS S350)), (352, (pureS S352)), (360, mt360), (361, mt361), (362, (pureS S362)), (386, (pureS S386)), (411, (pureS overS)), (425, (pureS S425)), (430, (pureS S430)), (432, (pureS S432)), (435, (pureS S435)), (441, mt441), (462, (pureS (Scmp .u64)))]) ftok (by rfl) (by rfl) (by
  intro p hp
  rcases List.mem_cons.1 hp with rfl | hp
  · exact sum36
  rcases List.mem_cons.1 hp with rfl | hp
  · exact sum37
  rcases List.mem_cons.1 hp with rfl | hp
  · exact sum39
  rcases List.mem_cons.1 hp with rfl | hp
  · exact sum40
  rcases List.mem_cons.1 hp with rfl | hp
  · exact sum46
  rcases List.mem_cons.1 hp with rfl | hp
  · exact sum51
  rcases List.mem_cons.1 hp with rfl | hp
  · exact sum55
  rcases List.mem_cons.1 hp with rfl | hp
  · exact sum56
  rcases List.mem_cons.1 hp with rfl | hp
  · exact sum80
  rcases List.mem_cons.1 hp with rfl | hp
  · exact sum101
  rcases List.mem_cons.1 hp with rfl | hp
  · exact sum105
  rcases List.mem_cons.1 hp with rfl | hp
  · exact sum106
  rcases List.mem_cons.1 hp with rfl | hp
  · exact sum124
  rcases List.mem_cons.1 hp with rfl | hp
  · exact sum125
  rcases List.mem_cons.1 hp with rfl | hp
  · exact sum126
  rcases List.mem_cons.1 hp with rfl | hp
  · exact sum130
  rcases List.mem_cons.1 hp with rfl | hp
  · exact sum133
  rcases List.mem_cons.1 hp with rfl | hp
  · exact sum157
  rcases List.mem_cons.1 hp with rfl | hp
  · exact sum158
  rcases List.mem_cons.1 hp with rfl | hp
  · exact sum159
  rcases List.mem_cons.1 hp with rfl | hp
  · exact sum160
  rcases List.mem_cons.1 hp with rfl | hp
  · exact sum162
  rcases List.mem_cons.1 hp with rfl | hp
  · exact sum163b
  rcases List.mem_cons.1 hp with rfl | hp
  · exact sum164
  rcases List.mem_cons.1 hp with rfl | hp
  · exact sum172
  rcases List.mem_cons.1 hp with rfl | hp
  · exact sum184
  rcases List.mem_cons.1 hp with rfl | hp
  · exact sum185
  rcases List.mem_cons.1 hp with rfl | hp
  · exact sum195
  rcases List.mem_cons.1 hp with rfl | hp
  · exact sum204
  rcases List.mem_cons.1 hp with rfl | hp
  · exact sum220
  rcases List.mem_cons.1 hp with rfl | hp
  · exact sum221
  rcases List.mem_cons.1 hp with rfl | hp
  · exact sum244
  rcases List.mem_cons.1 hp with rfl | hp
  · exact sum249
  rcases List.mem_cons.1 hp with rfl | hp
  · exact sum250
  rcases List.mem_cons.1 hp with rfl | hp
  · exact sum251
  rcases List.mem_cons.1 hp with rfl | hp
  · exact sum258
  rcases List.mem_cons.1 hp with rfl | hp
  · exact sum263
  rcases List.mem_cons.1 hp with rfl | hp
  · exact sum264
  rcases List.mem_cons.1 hp with rfl | hp
  · exact sum265
  rcases List.mem_cons.1 hp with rfl | hp
  · exact sum268
  rcases List.mem_cons.1 hp with rfl | hp
  · exact sum269
  rcases List.mem_cons.1 hp with rfl | hp
  · exact sum271
  rcases List.mem_cons.1 hp with rfl | hp
  · exact sum277
  rcases List.mem_cons.1 hp with rfl | hp
  · exact sum282
  rcases List.mem_cons.1 hp with rfl | hp
  · exact sum330
  rcases List.mem_cons.1 hp with rfl | hp
  · exact sum331
  rcases List.mem_cons.1 hp with rfl | hp
  · exact sum339
  rcases List.mem_cons.1 hp with rfl | hp
  · exact sum340
  rcases List.mem_cons.1 hp with rfl | hp
  · exact sum341
  rcases List.mem_cons.1 hp with rfl | hp
  · exact sum342
  rcases List.mem_cons.1 hp with rfl | hp
  · exact sum343
  rcases List.mem_cons.1 hp with rfl | hp
  · exact sum345
  rcases List.mem_cons.1 hp with rfl | hp
  · exact sum346
  rcases List.mem_cons.1 hp with rfl | hp
  · exact sum347
  rcases List.mem_cons.1 hp with rfl | hp
  · exact sum348
  rcases List.mem_cons.1 hp with rfl | hp
  · exact sum349
  rcases List.mem_cons.1 hp with rfl | hp
  · exact sum350
  rcases List.mem_cons.1 hp with rfl | hp
  · exact sum352
  rcases List.mem_cons.1 hp with rfl | hp
  · exact sum360
  rcases List.mem_cons.1 hp with rfl | hp
  · exact sum361
  rcases List.mem_cons.1 hp with rfl | hp
  · exact sum362
  rcases List.mem_cons.1 hp with rfl | hp
  · exact sum386
  rcases List.mem_cons.1 hp with rfl | hp
  · exact sum411
  rcases List.mem_cons.1 hp with rfl | hp
  · exact sum425
  rcases List.mem_cons.1 hp with rfl | hp
  · exact sum430
  rcases List.mem_cons.1 hp with rfl | hp
  · exact sum432
  rcases List.mem_cons.1 hp with rfl | hp
  · exact sum435
  rcases List.mem_cons.1 hp with rfl | hp
  · exact sum441
  rcases List.mem_cons.1 hp with rfl | hp
  · exact sum462
  cases hp)
end Go.VM

