/- A part of the proof: Jp1. No condition. -/
import Derived.Test.YtchfpiimkmphjaaGreatRows
import Derived.ProofKit
namespace Go.Proofs.YtchfpiimkmphjaaGreat
open Go.ChangeShapes Go.WideShapes Go.ChangeAt Go.RowKit
set_option maxRecDepth 1000000
theorem jlaid : laidOutB Tryz.checked.prog = true := by kernel_rfl
end Go.Proofs.YtchfpiimkmphjaaGreat

