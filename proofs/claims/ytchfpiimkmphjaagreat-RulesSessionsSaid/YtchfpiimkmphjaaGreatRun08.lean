/- A part of the proof: Run08. No condition. -/
import Derived.Test.YtchfpiimkmphjaaGreatTab
import Derived.KernelRfl
namespace Go.VM
open Go
set_option maxRecDepth 1000000
theorem run08 : isT (funA ftc ttc ntc .nil 1000000 200 (.fn 10) [] H0) = true := by kernel_rfl
end Go.VM

