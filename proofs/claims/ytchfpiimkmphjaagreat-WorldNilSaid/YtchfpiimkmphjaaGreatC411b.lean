/- A part of the proof: C411b. No condition. -/
import Derived.Test.YtchfpiimkmphjaaGreatC411a
import Derived.Test.YtchfpiimkmphjaaGreatVmM2
import Derived.KernelRfl
namespace Go.VM
open Go
set_option maxRecDepth 1000000
noncomputable section
def fin411 (neg : Bool) (ahi alo d qhi qlo i r : Int) : Option (Ex × AF × AH) :=
  cond (decide (r ≥ d)) (some (.norm, fr411 d (uw (r - d)) (iw (i - 1)), hp411 neg ahi alo (bor (shl qhi 1) (shr qlo 63)) (bor (shl qlo 1) 1)))
    (some (.norm, fr411 d r (iw (i - 1)), hp411 neg ahi alo (bor (shl qhi 1) (shr qlo 63)) (shl qlo 1)))
theorem round411 (neg : Bool) (ahi alo d qhi qlo rest i : Int) : roundT ttc ntc (funK ft411 ttc ntc .nil 1000 20) 1000 fi411.trim (loopAt fi411 0) (fr411 d rest i) (hp411 neg ahi alo qhi qlo) =
    cond (decide (i ≥ 0)) (cond (decide (uw i < 0)) none (cond (decide (i ≥ 64)) (cond (decide (uw (iw (i - 64)) < 0)) none
      (fin411 neg ahi alo d qhi qlo i (bor (shl rest 1) (band (shr ahi (uw (iw (i - 64)))) 1))))
      (fin411 neg ahi alo d qhi qlo i (bor (shl rest 1) (band (shr alo (uw i)) 1)))))
      (some (.exit 0, fr411 d rest i, hp411 neg ahi alo qhi qlo)) := by kernel_rfl
end
end Go.VM

