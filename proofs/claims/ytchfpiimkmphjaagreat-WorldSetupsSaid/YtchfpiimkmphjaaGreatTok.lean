/- A part of the proof: Tok. No condition. -/
import Derived.Test.YtchfpiimkmphjaaGreatTab
import Derived.KernelRfl
namespace Go.VM
open Go
set_option maxRecDepth 1000000
theorem ftok : FTok Go.Proofs.Tryz.prog ftc := ftok_of (n := 12) (by kernel_rfl) (by kernel_rfl)
end Go.VM

