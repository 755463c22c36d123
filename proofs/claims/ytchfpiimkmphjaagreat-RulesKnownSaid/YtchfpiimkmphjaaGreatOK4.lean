/- A part of the proof: OK4. No condition. -/
import Derived.Test.YtchfpiimkmphjaaGreatMe4r0
import Derived.Test.YtchfpiimkmphjaaGreatMe4r1
import Derived.Test.YtchfpiimkmphjaaGreatMe4r2
import Derived.Test.YtchfpiimkmphjaaGreatOK08
import Derived.Test.YtchfpiimkmphjaaGreatSortS
namespace Go.VM
open Go
theorem me4s_71 : SumOk Go.Proofs.Tryz.prog 71 (pureS (memoS met4_71)) := sumOk_memo mixed ftok ttok ntok (otok_nil _) (lf := 1000000) (n := 200) (by
  intro p hp
  rcases List.mem_cons.1 hp with rfl | hp
  · exact me4_71_0_ran
  rcases List.mem_cons.1 hp with rfl | hp
  · exact me4_71_1_ran
  rcases List.mem_cons.1 hp with rfl | hp
  · exact me4_71_2_ran
  rcases List.mem_cons.1 hp with rfl | hp
  · exact me4_71_3_ran
  rcases List.mem_cons.1 hp with rfl | hp
  · exact me4_71_4_ran
  rcases List.mem_cons.1 hp with rfl | hp
  · exact me4_71_5_ran
  rcases List.mem_cons.1 hp with rfl | hp
  · exact me4_71_6_ran
  rcases List.mem_cons.1 hp with rfl | hp
  · exact me4_71_7_ran
  rcases List.mem_cons.1 hp with rfl | hp
  · exact me4_71_8_ran
  rcases List.mem_cons.1 hp with rfl | hp
  · exact me4_71_9_ran
  rcases List.mem_cons.1 hp with rfl | hp
  · exact me4_71_10_ran
  rcases List.mem_cons.1 hp with rfl | hp
  · exact me4_71_11_ran
  cases hp)
theorem me4s_234 : SumOk Go.Proofs.Tryz.prog 234 (pureS (memoS met4_234)) := sumOk_memo mixed ftok ttok ntok (otok_nil _) (lf := 1000000) (n := 200) (by
  intro p hp
  rcases List.mem_cons.1 hp with rfl | hp
  · exact me4_234_0_ran
  cases hp)
theorem me4s_96 : SumOk Go.Proofs.Tryz.prog 96 (pureS (memoS met4_96)) := sumOk_memo mixed ftok ttok ntok (otok_nil _) (lf := 1000000) (n := 200) (by
  intro p hp
  rcases List.mem_cons.1 hp with rfl | hp
  · exact me4_96_0_ran
  cases hp)
theorem me4s_172 : SumOk Go.Proofs.Tryz.prog 172 (pureS (memoS met4_172)) := sumOk_memo mixed ftok ttok ntok (otok_nil _) (lf := 1000000) (n := 200) (by
  intro p hp
  rcases List.mem_cons.1 hp with rfl | hp
  · exact me4_172_0_ran
  cases hp)
theorem me4s_117 : SumOk Go.Proofs.Tryz.prog 117 (pureS (memoS met4_117)) := sumOk_memo mixed ftok ttok ntok (otok_nil _) (lf := 1000000) (n := 200) (by
  intro p hp
  rcases List.mem_cons.1 hp with rfl | hp
  · exact me4_117_0_ran
  cases hp)
theorem me4s_239 : SumOk Go.Proofs.Tryz.prog 239 (pureS (memoS met4_239)) := sumOk_memo mixed ftok ttok ntok (otok_nil _) (lf := 1000000) (n := 200) (by
  intro p hp
  rcases List.mem_cons.1 hp with rfl | hp
  · exact me4_239_0_ran
  cases hp)
theorem otok4 : OTok Go.Proofs.Tryz.prog ot4 := otok_of (l := [(10, pureS (constS (.bool true))), (282, orS [368]), (71, pureS (memoS met4_71)), (234, pureS (memoS met4_234)), (96, pureS (memoS met4_96)), (172, pureS (memoS met4_172)), (117, pureS (memoS met4_117)), (239, pureS (memoS met4_239))]) ftok (by rfl) (by rfl) (by
  intro p hp
  rcases List.mem_cons.1 hp with rfl | hp
  · exact sum10
  rcases List.mem_cons.1 hp with rfl | hp
  · exact sum282
  rcases List.mem_cons.1 hp with rfl | hp
  · exact me4s_71
  rcases List.mem_cons.1 hp with rfl | hp
  · exact me4s_234
  rcases List.mem_cons.1 hp with rfl | hp
  · exact me4s_96
  rcases List.mem_cons.1 hp with rfl | hp
  · exact me4s_172
  rcases List.mem_cons.1 hp with rfl | hp
  · exact me4s_117
  rcases List.mem_cons.1 hp with rfl | hp
  · exact me4s_239
  cases hp)
end Go.VM

