/- A part of the proof: Run4. No condition. -/
import Derived.Test.YtchfpiimkmphjaaGreatMe4
import Derived.Test.YtchfpiimkmphjaaGreatVmL3
import Derived.KernelRfl
namespace Go.VM
open Go
set_option maxRecDepth 1000000
theorem run4t : isT (funA ftc ttc ntc ot4 1000000 200 (.fn 4) [] H0) = true := by kernel_rfl
theorem run4 : ∃ H', funA ftc ttc ntc ot4 1000000 200 (.fn 4) [] H0 = some (.bool true, H') := isT_iff run4t
end Go.VM

