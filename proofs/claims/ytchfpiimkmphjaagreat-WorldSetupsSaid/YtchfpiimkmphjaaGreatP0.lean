/- A part of the proof: P0. No condition. -/
import Derived.Test.YtchfpiimkmphjaaGreatN0
import Derived.Test.YtchfpiimkmphjaaGreatVmPc
import Derived.KernelRfl
namespace Go.VM
open Go
set_option maxRecDepth 1000000
noncomputable section
-- appends of bytes are told as growth
def ttg : TT := ttc.set 40 5 (some { tti5 with grow := true })
theorem ttg_ok : TTok Go.Proofs.Tryz.prog ttg := ttok_grow ttok (t := 5) (ti := tti5) (by kernel_rfl)
end
end Go.VM

