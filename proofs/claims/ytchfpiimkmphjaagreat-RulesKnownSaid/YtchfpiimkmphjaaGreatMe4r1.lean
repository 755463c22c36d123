/- A part of the proof: Me4r1. No condition. -/
import Derived.Test.YtchfpiimkmphjaaGreatMe4
import Derived.Test.YtchfpiimkmphjaaGreatVmMe
import Derived.KernelRfl
namespace Go.VM
open Go
set_option maxRecDepth 1000000
theorem me4_71_1_ran : ranS ftc ttc ntc .nil 1000000 200 71 me4_71_1 := by
  unfold ranS
  kernel_rfl
theorem me4_71_4_ran : ranS ftc ttc ntc .nil 1000000 200 71 me4_71_4 := by
  unfold ranS
  kernel_rfl
theorem me4_71_7_ran : ranS ftc ttc ntc .nil 1000000 200 71 me4_71_7 := by
  unfold ranS
  kernel_rfl
theorem me4_71_10_ran : ranS ftc ttc ntc .nil 1000000 200 71 me4_71_10 := by
  unfold ranS
  kernel_rfl
theorem me4_96_0_ran : ranS ftc ttc ntc .nil 1000000 200 96 me4_96_0 := by
  unfold ranS
  kernel_rfl
theorem me4_239_0_ran : ranS ftc ttc ntc .nil 1000000 200 239 me4_239_0 := by
  unfold ranS
  kernel_rfl
end Go.VM

