/- A part of the proof: Mha. No condition. -/
import Derived.Test.YtchfpiimkmphjaaGreatFxa
import Derived.Test.YtchfpiimkmphjaaGreatOK06
import Derived.Test.YtchfpiimkmphjaaGreatVmPb
import Derived.KernelRfl
namespace Go.VM
open Go
noncomputable def ot6 : OT := (.node (.node (.node (.node (.node (.node .nil none (.node (.node .nil (some (pureS S159)) .nil) none .nil)) none (.node (.node (.node (.node .nil (some (pureS S271)) .nil) none .nil) none .nil) none .nil)) none (.node .nil none (.node (.node .nil none (.node (.node .nil (some (pureS S343)) .nil) none .nil)) none .nil))) none (.node (.node (.node .nil none (.node (.node .nil (some (pureS S163)) .nil) none .nil)) none (.node (.node .nil none (.node (.node .nil (some (pureS S339)) .nil) none .nil)) none (.node (.node .nil none (.node .nil (some (pureS S435)) .nil)) none .nil))) none (.node (.node (.node .nil none (.node (.node .nil (some (pureS S331)) .nil) none .nil)) none .nil) none (.node (.node (.node .nil none (.node .nil (some (pureS overS)) .nil)) none (.node (.node .nil (some (pureS S347)) .nil) none .nil)) none .nil)))) none (.node (.node .nil none (.node (.node (.node (.node (.node .nil (some (pureS S265)) .nil) none .nil) none .nil) none (.node (.node .nil none (.node .nil (some (pureS S425)) .nil)) none .nil)) none (.node (.node .nil none (.node (.node .nil (some (pureS S345)) .nil) none .nil)) none (.node .nil none (.node .nil (some (pureS S249)) .nil))))) none (.node (.node .nil none (.node (.node .nil none (.node (.node .nil (some (pureS S341)) .nil) none .nil)) none .nil)) none (.node (.node (.node (.node (.node .nil (some (pureS S269)) .nil) none .nil) none .nil) none .nil) none (.node (.node (.node .nil (some (pureS (Scmp .i64))) .nil) none .nil) none .nil))))) none (.node (.node (.node (.node (.node .nil none (.node (.node .nil (some (pureS S160)) .nil) none (.node (.node .nil (some (pureS S352)) .nil) none .nil))) none (.node (.node .nil (some (pureS S80)) .nil) none (.node (.node .nil none (.node .nil (some (pureS S432)) .nil)) none .nil))) none (.node (.node (.node (.node (.node .nil (some (pureS S264)) .nil) none .nil) none .nil) none .nil) none .nil)) none (.node (.node (.node .nil (some (pureS (constS (.bool true)))) (.node (.node .nil (some (pureS S164)) .nil) none .nil)) none (.node (.node .nil none (.node (.node .nil (some (pureS S340)) .nil) none .nil)) none (.node .nil none (.node .nil (some (pureS S244)) .nil)))) none (.node (.node (.node (.node (.node .nil (some (pureS S268)) .nil) none .nil) none .nil) none .nil) none (.node (.node .nil none (.node (.node .nil (some (pureS S348)) .nil) none .nil)) none .nil)))) none (.node (.node (.node (.node (.node (.node (.node .nil (some (pureS S258)) .nil) none (.node .nil (some (pureS S386)) .nil)) none .nil) none (.node (.node .nil (some (pureS S162)) .nil) none .nil)) none .nil) none (.node (.node (.node .nil none (.node (.node .nil (some (pureS S330)) .nil) none .nil)) none (.node .nil none (.node (.node .nil (some (pureS S362)) .nil) none .nil))) none (.node (.node (.node (.node .nil (some (orS [368])) .nil) none .nil) none (.node (.node .nil (some (pureS S346)) .nil) none .nil)) none (.node .nil none (.node .nil (some (pureS S250)) .nil))))) none (.node (.node .nil none (.node (.node .nil none (.node (.node .nil (some (pureS S342)) .nil) none .nil)) none .nil)) none (.node (.node (.node .nil none (.node .nil none (.node .nil (some (pureS (Scmp .u64))) .nil))) none (.node (.node .nil none (.node .nil (some (pureS S430)) .nil)) none .nil)) none (.node (.node (.node .nil (some (pureS S158)) .nil) none (.node (.node .nil (some (pureS S350)) .nil) none .nil)) none .nil))))))
theorem ot6_ok : OTok Go.Proofs.Tryz.prog ot6 := otok_of (l := [(36, (pureS (constS (.bool true)))), (80, (pureS S80)), (157, (pureS (Scmp .i64))), (158, (pureS S158)), (159, (pureS S159)), (160, (pureS S160)), (162, (pureS S162)), (163, (pureS S163)), (164, (pureS S164)), (244, (pureS S244)), (249, (pureS S249)), (250, (pureS S250)), (258, (pureS S258)), (264, (pureS S264)), (265, (pureS S265)), (268, (pureS S268)), (269, (pureS S269)), (271, (pureS S271)), (282, (orS [368])), (330, (pureS S330)), (331, (pureS S331)), (339, (pureS S339)), (340, (pureS S340)), (341, (pureS S341)), (342, (pureS S342)), (343, (pureS S343)), (345, (pureS S345)), (346, (pureS S346)), (347, (pureS S347)), (348, (pureS S348)), (350, (pureS S350)), (352, (pureS S352)), (362, (pureS S362)), (386, (pureS S386)), (411, (pureS overS)), (425, (pureS S425)), (430, (pureS S430)), (432, (pureS S432)), (435, (pureS S435)), (462, (pureS (Scmp .u64)))]) ftok (by rfl) (by rfl) (by
  intro p hp
  rcases List.mem_cons.1 hp with rfl | hp
  · exact sum36
  rcases List.mem_cons.1 hp with rfl | hp
  · exact sum80
  rcases List.mem_cons.1 hp with rfl | hp
  · exact sum157
  rcases List.mem_cons.1 hp with rfl | hp
  · exact sum158
  rcases List.mem_cons.1 hp with rfl | hp
  · exact sum159
  rcases List.mem_cons.1 hp with rfl | hp
  · exact sum160
  rcases List.mem_cons.1 hp with rfl | hp
  · exact sum162
  rcases List.mem_cons.1 hp with rfl | hp
  · exact sum163
  rcases List.mem_cons.1 hp with rfl | hp
  · exact sum164
  rcases List.mem_cons.1 hp with rfl | hp
  · exact sum244
  rcases List.mem_cons.1 hp with rfl | hp
  · exact sum249
  rcases List.mem_cons.1 hp with rfl | hp
  · exact sum250
  rcases List.mem_cons.1 hp with rfl | hp
  · exact sum258
  rcases List.mem_cons.1 hp with rfl | hp
  · exact sum264
  rcases List.mem_cons.1 hp with rfl | hp
  · exact sum265
  rcases List.mem_cons.1 hp with rfl | hp
  · exact sum268
  rcases List.mem_cons.1 hp with rfl | hp
  · exact sum269
  rcases List.mem_cons.1 hp with rfl | hp
  · exact sum271
  rcases List.mem_cons.1 hp with rfl | hp
  · exact sum282
  rcases List.mem_cons.1 hp with rfl | hp
  · exact sum330
  rcases List.mem_cons.1 hp with rfl | hp
  · exact sum331
  rcases List.mem_cons.1 hp with rfl | hp
  · exact sum339
  rcases List.mem_cons.1 hp with rfl | hp
  · exact sum340
  rcases List.mem_cons.1 hp with rfl | hp
  · exact sum341
  rcases List.mem_cons.1 hp with rfl | hp
  · exact sum342
  rcases List.mem_cons.1 hp with rfl | hp
  · exact sum343
  rcases List.mem_cons.1 hp with rfl | hp
  · exact sum345
  rcases List.mem_cons.1 hp with rfl | hp
  · exact sum346
  rcases List.mem_cons.1 hp with rfl | hp
  · exact sum347
  rcases List.mem_cons.1 hp with rfl | hp
  · exact sum348
  rcases List.mem_cons.1 hp with rfl | hp
  · exact sum350
  rcases List.mem_cons.1 hp with rfl | hp
  · exact sum352
  rcases List.mem_cons.1 hp with rfl | hp
  · exact sum362
  rcases List.mem_cons.1 hp with rfl | hp
  · exact sum386
  rcases List.mem_cons.1 hp with rfl | hp
  · exact sum411
  rcases List.mem_cons.1 hp with rfl | hp
  · exact sum425
  rcases List.mem_cons.1 hp with rfl | hp
  · exact sum430
  rcases List.mem_cons.1 hp with rfl | hp
  · exact sum432
  rcases List.mem_cons.1 hp with rfl | hp
  · exact sum435
  rcases List.mem_cons.1 hp with rfl | hp
  · exact sum462
  cases hp)
end Go.VM

namespace Go.VM
open Go
set_option maxRecDepth 1000000
def mh441_0 : RowH := ⟨[.agg [.int .i64 (-4294967296), .bool false], .agg [.int .i64 (4294967296), .bool false]], [], .agg [.int .i64 (6074000999), .bool false], []⟩
def mh441_1 : RowH := ⟨[.agg [.int .i64 (-12884901888), .bool false], .agg [.int .i64 (0), .bool false]], [], .agg [.int .i64 (12884901888), .bool false], []⟩
def mh441_2 : RowH := ⟨[.agg [.int .i64 (-4294967296), .bool false], .agg [.int .i64 (-4294967296), .bool false]], [], .agg [.int .i64 (6074000999), .bool false], []⟩
def mh441_3 : RowH := ⟨[.agg [.int .i64 (-4294967296), .bool false], .agg [.int .i64 (0), .bool false]], [], .agg [.int .i64 (4294967296), .bool false], []⟩
def mh441_4 : RowH := ⟨[.agg [.int .i64 (-2199023255552), .bool false], .agg [.int .i64 (0), .bool false]], [], .agg [.int .i64 (2199023255552), .bool false], []⟩
def mh441_5 : RowH := ⟨[.agg [.int .i64 (0), .bool false], .agg [.int .i64 (0), .bool false]], [], .agg [.int .i64 (0), .bool false], []⟩
def mh441_6 : RowH := ⟨[.agg [.int .i64 (20132659200), .bool false], .agg [.int .i64 (0), .bool false]], [], .agg [.int .i64 (20132659200), .bool false], []⟩
def mh441_7 : RowH := ⟨[.agg [.int .i64 (-4294967297), .bool false], .agg [.int .i64 (0), .bool false]], [], .agg [.int .i64 (4294967297), .bool false], []⟩
theorem mk441_0 : ranHB ftc ttc ntc ot6 1000000 200 441 mh441_0 = true := by kernel_rfl
theorem mk441_1 : ranHB ftc ttc ntc ot6 1000000 200 441 mh441_1 = true := by kernel_rfl
theorem mk441_2 : ranHB ftc ttc ntc ot6 1000000 200 441 mh441_2 = true := by kernel_rfl
theorem mk441_3 : ranHB ftc ttc ntc ot6 1000000 200 441 mh441_3 = true := by kernel_rfl
theorem mk441_4 : ranHB ftc ttc ntc ot6 1000000 200 441 mh441_4 = true := by kernel_rfl
theorem mk441_5 : ranHB ftc ttc ntc ot6 1000000 200 441 mh441_5 = true := by kernel_rfl
theorem mk441_6 : ranHB ftc ttc ntc ot6 1000000 200 441 mh441_6 = true := by kernel_rfl
theorem mk441_7 : ranHB ftc ttc ntc ot6 1000000 200 441 mh441_7 = true := by kernel_rfl
noncomputable def mt441 : SumF := heapS rhoA (memoH [mh441_0, mh441_1, mh441_2, mh441_3, mh441_4, mh441_5, mh441_6, mh441_7])
theorem sum441 : SumOk Go.Proofs.Tryz.prog 441 mt441 := sumOk_memoH mixed ftok ttok ntok ot6_ok (lf := 1000000) (m := 200) (by
  intro r hr
  rcases List.mem_cons.1 hr with rfl | hr
  · exact mk441_0
  rcases List.mem_cons.1 hr with rfl | hr
  · exact mk441_1
  rcases List.mem_cons.1 hr with rfl | hr
  · exact mk441_2
  rcases List.mem_cons.1 hr with rfl | hr
  · exact mk441_3
  rcases List.mem_cons.1 hr with rfl | hr
  · exact mk441_4
  rcases List.mem_cons.1 hr with rfl | hr
  · exact mk441_5
  rcases List.mem_cons.1 hr with rfl | hr
  · exact mk441_6
  rcases List.mem_cons.1 hr with rfl | hr
  · exact mk441_7
  cases hr)
end Go.VM

namespace Go.VM
open Go
noncomputable def ot7 : OT := (.node (.node (.node (.node (.node (.node .nil none (.node (.node .nil (some (pureS S159)) .nil) none .nil)) none (.node (.node (.node (.node .nil (some (pureS S271)) .nil) none .nil) none .nil) none .nil)) none (.node .nil none (.node (.node .nil none (.node (.node .nil (some (pureS S343)) .nil) none .nil)) none .nil))) none (.node (.node (.node .nil none (.node (.node .nil (some (pureS S163)) .nil) none .nil)) none (.node (.node .nil none (.node (.node .nil (some (pureS S339)) .nil) none .nil)) none (.node (.node .nil none (.node .nil (some (pureS S435)) .nil)) none .nil))) none (.node (.node (.node .nil none (.node (.node .nil (some (pureS S331)) .nil) none .nil)) none .nil) none (.node (.node (.node .nil none (.node .nil (some (pureS overS)) .nil)) none (.node (.node .nil (some (pureS S347)) .nil) none .nil)) none .nil)))) none (.node (.node .nil none (.node (.node (.node (.node (.node .nil (some (pureS S265)) .nil) none .nil) none .nil) none (.node (.node .nil none (.node .nil (some (pureS S425)) .nil)) none .nil)) none (.node (.node .nil none (.node (.node .nil (some (pureS S345)) .nil) none .nil)) none (.node (.node .nil none (.node .nil (some mt441) .nil)) none (.node .nil (some (pureS S249)) .nil))))) none (.node (.node .nil none (.node (.node .nil none (.node (.node .nil (some (pureS S341)) .nil) none .nil)) none .nil)) none (.node (.node (.node (.node (.node .nil (some (pureS S269)) .nil) none .nil) none .nil) none .nil) none (.node (.node (.node .nil (some (pureS (Scmp .i64))) .nil) none .nil) none .nil))))) none (.node (.node (.node (.node (.node .nil none (.node (.node .nil (some (pureS S160)) .nil) none (.node (.node .nil (some (pureS S352)) .nil) none .nil))) none (.node (.node .nil (some (pureS S80)) .nil) none (.node (.node .nil none (.node .nil (some (pureS S432)) .nil)) none .nil))) none (.node (.node (.node (.node (.node .nil (some (pureS S264)) .nil) none .nil) none .nil) none .nil) none .nil)) none (.node (.node (.node .nil (some (pureS (constS (.bool true)))) (.node (.node .nil (some (pureS S164)) .nil) none .nil)) none (.node (.node .nil none (.node (.node .nil (some (pureS S340)) .nil) none .nil)) none (.node .nil none (.node .nil (some (pureS S244)) .nil)))) none (.node (.node (.node (.node (.node .nil (some (pureS S268)) .nil) none .nil) none .nil) none .nil) none (.node (.node .nil none (.node (.node .nil (some (pureS S348)) .nil) none .nil)) none .nil)))) none (.node (.node (.node (.node (.node (.node (.node .nil (some (pureS S258)) .nil) none (.node .nil (some (pureS S386)) .nil)) none .nil) none (.node (.node .nil (some (pureS S162)) .nil) none .nil)) none .nil) none (.node (.node (.node .nil none (.node (.node .nil (some (pureS S330)) .nil) none .nil)) none (.node .nil none (.node (.node .nil (some (pureS S362)) .nil) none .nil))) none (.node (.node (.node (.node .nil (some (orS [368])) .nil) none .nil) none (.node (.node .nil (some (pureS S346)) .nil) none .nil)) none (.node .nil none (.node .nil (some (pureS S250)) .nil))))) none (.node (.node .nil none (.node (.node .nil none (.node (.node .nil (some (pureS S342)) .nil) none .nil)) none .nil)) none (.node (.node (.node .nil none (.node .nil none (.node .nil (some (pureS (Scmp .u64))) .nil))) none (.node (.node .nil none (.node .nil (some (pureS S430)) .nil)) none .nil)) none (.node (.node (.node .nil (some (pureS S158)) .nil) none (.node (.node .nil (some (pureS S350)) .nil) none .nil)) none .nil))))))
theorem ot7_ok : OTok Go.Proofs.Tryz.prog ot7 := otok_of (l := [(36, (pureS (constS (.bool true)))), (80, (pureS S80)), (157, (pureS (Scmp .i64))), (158, (pureS S158)), (159, (pureS S159)), (160, (pureS S160)), (162, (pureS S162)), (163, (pureS S163)), (164, (pureS S164)), (244, (pureS S244)), (249, (pureS S249)), (250, (pureS S250)), (258, (pureS S258)), (264, (pureS S264)), (265, (pureS S265)), (268, (pureS S268)), (269, (pureS S269)), (271, (pureS S271)), (282, (orS [368])), (330, (pureS S330)), (331, (pureS S331)), (339, (pureS S339)), (340, (pureS S340)), (341, (pureS S341)), (342, (pureS S342)), (343, (pureS S343)), (345, (pureS S345)), (346, (pureS S346)), (347, (pureS S347)), (348, (pureS S348)), (350, (pureS S350)), (352, (pureS S352)), (362, (pureS S362)), (386, (pureS S386)), (411, (pureS overS)), (425, (pureS S425)), (430, (pureS S430)), (432, (pureS S432)), (435, (pureS S435)), (441, mt441), (462, (pureS (Scmp .u64)))]) ftok (by rfl) (by rfl) (by
  intro p hp
  rcases List.mem_cons.1 hp with rfl | hp
  · exact sum36
  rcases List.mem_cons.1 hp with rfl | hp
  · exact sum80
  rcases List.mem_cons.1 hp with rfl | hp
  · exact sum157
  rcases List.mem_cons.1 hp with rfl | hp
  · exact sum158
  rcases List.mem_cons.1 hp with rfl | hp
  · exact sum159
  rcases List.mem_cons.1 hp with rfl | hp
  · exact sum160
  rcases List.mem_cons.1 hp with rfl | hp
  · exact sum162
  rcases List.mem_cons.1 hp with rfl | hp
  · exact sum163
  rcases List.mem_cons.1 hp with rfl | hp
  · exact sum164
  rcases List.mem_cons.1 hp with rfl | hp
  · exact sum244
  rcases List.mem_cons.1 hp with rfl | hp
  · exact sum249
  rcases List.mem_cons.1 hp with rfl | hp
  · exact sum250
  rcases List.mem_cons.1 hp with rfl | hp
  · exact sum258
  rcases List.mem_cons.1 hp with rfl | hp
  · exact sum264
  rcases List.mem_cons.1 hp with rfl | hp
  · exact sum265
  rcases List.mem_cons.1 hp with rfl | hp
  · exact sum268
  rcases List.mem_cons.1 hp with rfl | hp
  · exact sum269
  rcases List.mem_cons.1 hp with rfl | hp
  · exact sum271
  rcases List.mem_cons.1 hp with rfl | hp
  · exact sum282
  rcases List.mem_cons.1 hp with rfl | hp
  · exact sum330
  rcases List.mem_cons.1 hp with rfl | hp
  · exact sum331
  rcases List.mem_cons.1 hp with rfl | hp
  · exact sum339
  rcases List.mem_cons.1 hp with rfl | hp
  · exact sum340
  rcases List.mem_cons.1 hp with rfl | hp
  · exact sum341
  rcases List.mem_cons.1 hp with rfl | hp
  · exact sum342
  rcases List.mem_cons.1 hp with rfl | hp
  · exact sum343
  rcases List.mem_cons.1 hp with rfl | hp
  · exact sum345
  rcases List.mem_cons.1 hp with rfl | hp
  · exact sum346
  rcases List.mem_cons.1 hp with rfl | hp
  · exact sum347
  rcases List.mem_cons.1 hp with rfl | hp
  · exact sum348
  rcases List.mem_cons.1 hp with rfl | hp
  · exact sum350
  rcases List.mem_cons.1 hp with rfl | hp
  · exact sum352
  rcases List.mem_cons.1 hp with rfl | hp
  · exact sum362
  rcases List.mem_cons.1 hp with rfl | hp
  · exact sum386
  rcases List.mem_cons.1 hp with rfl | hp
  · exact sum411
  rcases List.mem_cons.1 hp with rfl | hp
  · exact sum425
  rcases List.mem_cons.1 hp with rfl | hp
  · exact sum430
  rcases List.mem_cons.1 hp with rfl | hp
  · exact sum432
  rcases List.mem_cons.1 hp with rfl | hp
  · exact sum435
  rcases List.mem_cons.1 hp with rfl | hp
  · exact sum441
  rcases List.mem_cons.1 hp with rfl | hp
  · exact sum462
  cases hp)
end Go.VM

