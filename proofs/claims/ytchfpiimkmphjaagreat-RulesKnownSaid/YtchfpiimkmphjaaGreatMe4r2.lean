/- A part of the proof: Me4r2. No condition. -/
import Derived.Test.YtchfpiimkmphjaaGreatMe4
import Derived.Test.YtchfpiimkmphjaaGreatVmMe
import Derived.KernelRfl
namespace Go.VM
open Go
set_option maxRecDepth 1000000
theorem me4_71_2_ran : ranS ftc ttc ntc .nil 1000000 200 71 me4_71_2 := by
  unfold ranS
  kernel_rfl
theorem me4_71_5_ran : ranS ftc ttc ntc .nil 1000000 200 71 me4_71_5 := by
  unfold ranS
  kernel_rfl
theorem me4_71_8_ran : ranS ftc ttc ntc .nil 1000000 200 71 me4_71_8 := by
  unfold ranS
  kernel_rfl
theorem me4_71_11_ran : ranS ftc ttc ntc .nil 1000000 200 71 me4_71_11 := by
  unfold ranS
  kernel_rfl
theorem me4_172_0_ran : ranS ftc ttc ntc .nil 1000000 200 172 me4_172_0 := by
  unfold ranS
  kernel_rfl
end Go.VM

