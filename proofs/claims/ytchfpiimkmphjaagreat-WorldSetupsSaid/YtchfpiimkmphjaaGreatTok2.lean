/- A part of the proof: Tok2. No condition. -/
import Derived.Test.YtchfpiimkmphjaaGreatTab
import Derived.KernelRfl
namespace Go.VM
open Go
set_option maxRecDepth 1000000
theorem ttok : TTok Go.Proofs.Tryz.prog ttc := ttok_of (by kernel_rfl)
theorem mixed : Go.Proofs.Tryz.prog.follows .mixedOrders = true := by kernel_rfl
end Go.VM

