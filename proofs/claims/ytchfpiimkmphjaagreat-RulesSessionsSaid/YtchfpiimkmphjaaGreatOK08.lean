/- A part of the proof: OK08. No condition. -/
import Derived.Test.YtchfpiimkmphjaaGreatO08
import Derived.Test.YtchfpiimkmphjaaGreatTok
import Derived.Test.YtchfpiimkmphjaaGreatTok2
import Derived.Test.YtchfpiimkmphjaaGreatTok3
import Derived.Test.YtchfpiimkmphjaaGreatRun08
namespace Go.VM
open Go
theorem sum10 : SumOk Go.Proofs.Tryz.prog 10 (pureS (constS (.bool true))) := sumOk_const mixed ftok ttok ntok (otok_nil _) (isT_iff run08)
theorem otok08 : OTok Go.Proofs.Tryz.prog ot08 := otok_of (l := [(10, pureS (constS (.bool true)))]) ftok (by rfl) (by rfl) (by
  intro p hp
  rcases List.mem_cons.1 hp with rfl | hp
  · exact sum10
  cases hp)
end Go.VM

