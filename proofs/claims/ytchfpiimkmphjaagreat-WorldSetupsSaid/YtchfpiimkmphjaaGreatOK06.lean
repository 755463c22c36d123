/- A part of the proof: OK06. No condition. -/
import Derived.Test.YtchfpiimkmphjaaGreatO06
import Derived.Test.YtchfpiimkmphjaaGreatSortS
import Derived.Test.YtchfpiimkmphjaaGreatRun06
namespace Go.VM
open Go
theorem otok06 : OTok Go.Proofs.Tryz.prog ot06 := otok_of (l := [(411, pureS overS), (282, orS [368])]) ftok (by rfl) (by rfl) (by
  intro p hp
  rcases List.mem_cons.1 hp with rfl | hp
  · exact sum411
  rcases List.mem_cons.1 hp with rfl | hp
  · exact sum282
  cases hp)
theorem sum36 : SumOk Go.Proofs.Tryz.prog 36 (pureS (constS (.bool true))) := sumOk_const mixed ftok ttok ntok otok06 (isT_iff run06)
theorem otok06a : OTok Go.Proofs.Tryz.prog ot06a := otok_of (l := [(36, pureS (constS (.bool true)))]) ftok (by rfl) (by rfl) (by
  intro p hp
  rcases List.mem_cons.1 hp with rfl | hp
  · exact sum36
  cases hp)
end Go.VM

