/- A part of the proof: Run06. No condition. -/
import Derived.Test.YtchfpiimkmphjaaGreatO06
import Derived.KernelRfl
namespace Go.VM
open Go
set_option maxRecDepth 1000000
theorem run06 : isT (funA ftc ttc ntc ot06 1000000 200 (.fn 36) [] H0) = true := by kernel_rfl
end Go.VM

