/- A part of the proof: Me4r0. No condition. -/
import Derived.Test.YtchfpiimkmphjaaGreatMe4
import Derived.Test.YtchfpiimkmphjaaGreatVmMe
import Derived.KernelRfl
namespace Go.VM
open Go
set_option maxRecDepth 1000000
theorem me4_71_0_ran : ranS ftc ttc ntc .nil 1000000 200 71 me4_71_0 := by
  unfold ranS
  kernel_rfl
theorem me4_71_3_ran : ranS ftc ttc ntc .nil 1000000 200 71 me4_71_3 := by
  unfold ranS
  kernel_rfl
theorem me4_71_6_ran : ranS ftc ttc ntc .nil 1000000 200 71 me4_71_6 := by
  unfold ranS
  kernel_rfl
theorem me4_71_9_ran : ranS ftc ttc ntc .nil 1000000 200 71 me4_71_9 := by
  unfold ranS
  kernel_rfl
theorem me4_234_0_ran : ranS ftc ttc ntc .nil 1000000 200 234 me4_234_0 := by
  unfold ranS
  kernel_rfl
theorem me4_117_0_ran : ranS ftc ttc ntc .nil 1000000 200 117 me4_117_0 := by
  unfold ranS
  kernel_rfl
end Go.VM

