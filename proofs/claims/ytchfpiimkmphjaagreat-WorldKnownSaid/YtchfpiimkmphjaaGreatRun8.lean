/- A part of the proof: Run8. No condition. -/
import Derived.Test.YtchfpiimkmphjaaGreatMhh
import Derived.Test.YtchfpiimkmphjaaGreatVmL3
import Derived.KernelRfl
namespace Go.VM
open Go
set_option maxRecDepth 1000000
theorem run8x : isT (funA ftc ttc ntc ot13 1000000 200 (.fn 8) [] H0) = true := by kernel_rfl
theorem run8 : ∃ H', funA ftc ttc ntc ot13 1000000 200 (.fn 8) [] H0 = some (.bool true, H') := isT_iff run8x
end Go.VM

